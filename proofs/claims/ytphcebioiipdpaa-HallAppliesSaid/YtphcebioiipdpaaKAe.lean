/- Joined: XLD, XTEnc, XTData, XTWaitP, XTOkW, XTClones, XTPlain, XTCases, XTWaits, XTFirst. -/
import Derived.Test.YtphcebioiipdpaaKAc
import Derived.Test.YtphcebioiipdpaaRows
import Derived.Deep.Slices
import Derived.SizedLaws
import Derived.Below
import Derived.Carry
import Derived.ChangeSame
import Derived.Handed
import Derived.JoinedOf
import Derived.ProofKit
import Derived.OpenShut
import Derived.JoinedCond
import Derived.Deep.CondSized
import Derived.Lib.SmallJoins
import Derived.Test.YtphcebioiipdpaaKAd
namespace Go.Proofs.Ytphcebioiipdpaa
set_option linter.unusedVariables false
set_option linter.unusedSimpArgs false
set_option linter.unnecessarySimpa false
open Go.RowKit Go.ChangeShapes Go.WideShapes
def Opens {H : Type} (enc : TypeId × Value → H) (P : Program) (w : World) (t : TypeId) {α : Type} (f : α → List Tr) (s : α → Prop) (bk : α → Nat) : Prop :=
  ∀ (n : Nat) (cs : List Value) (x : DataW H × List MemPlace), DataW.trod enc P w 0 (fun _ => true) true n t cs = some x →
    ∃ a, cs.length = (f a).length ∧ ((∀ m ∈ x.1.weights P t, m ≤ reachBytes) → s a) ∧ bk a ≤ Rows.uptoBulk x.1 ∧ ∀ (j : Nat) tr u, (f a)[j]? = some tr → cs[j]? = some u → Frz w (fun b => b < w.heap.size) tr u
theorem Opens.int {H : Type} {enc : TypeId × Value → H} {P : Program} {w : World} {t : TypeId} {k : IntKind} (ht : P.underlying t = some (.int k)) : Opens enc P w t (fun x : Int => [.v (.int k x)]) (fun x => (Lit.int k x).wf = true) (fun _ => 1) := by
  intro n cs x h
  obtain ⟨a, rfl, rfl, hw⟩ := DataW.trod_int ht h
  refine ⟨a, rfl, fun _ => hw, Nat.le_refl _, fun j tr u hj hu => ?_⟩
  cases j with
  | zero => simp at hj hu; subst hj hu; exact .v rfl
  | succ j => simp at hj
theorem Opens.bool {H : Type} {enc : TypeId × Value → H} {P : Program} {w : World} {t : TypeId} (ht : P.underlying t = some .bool) : Opens enc P w t (fun x : Bool => [.v (.bool x)]) (fun _ => True) (fun _ => 1) := by
  intro n cs x h
  obtain ⟨a, rfl, rfl⟩ := DataW.trod_bool ht h
  refine ⟨a, rfl, fun _ => trivial, Nat.le_refl _, fun j tr u hj hu => ?_⟩
  cases j with
  | zero => simp at hj hu; subst hj hu; exact .v rfl
  | succ j => simp at hj
theorem Opens.map {H : Type} {enc : TypeId × Value → H} {P : Program} {w : World} {t : TypeId} {α β : Type} {f : α → List Tr} {s : α → Prop} {bk : α → Nat} (h : Opens enc P w t f s bk) (e : α → β) {f' : β → List Tr} {s' : β → Prop} {bk' : β → Nat} (hf : ∀ a, f' (e a) = f a) (hs : ∀ a, s a → s' (e a)) (hb : ∀ a, bk' (e a) ≤ bk a) : Opens enc P w t f' s' bk' := by
  intro n cs x hx
  obtain ⟨a, h1, h2, h3, h4⟩ := h n cs x hx
  exact ⟨e a, by rw [hf]; exact h1, fun hw => hs _ (h2 hw), Nat.le_trans (hb a) h3, by rw [hf]; exact h4⟩
theorem weightsAll_mem {H : Type} {P : Program} {e : TypeId} {d : DataW H} {m : Nat} : ∀ {l : List (DataW H)}, d ∈ l → m ∈ d.weights P e → m ∈ DataW.weightsAll P e l
  | x :: l, h, hm => by
    simp only [DataW.weightsAll, List.mem_append]
    rcases List.mem_cons.1 h with h | h
    · subst h; exact .inl hm
    · exact .inr (weightsAll_mem h hm)
theorem bulkAll_sum {H : Type} {α : Type} {bk : α → Nat} : ∀ {l : List (DataW H)} {m : List α}, m.length = l.length → (∀ (i : Nat) (a : α) (y : DataW H), m[i]? = some a → l[i]? = some y → bk a ≤ Rows.uptoBulk y) → (m.map bk).sum ≤ Rows.uptoBulkAll l
  | [], [], _, _ => by simp [Rows.uptoBulkAll]
  | [], _ :: _, h, _ => by simp at h
  | _ :: _, [], h, _ => by simp at h
  | y :: l, a :: m, hl, h => by
    have h0 := h 0 a y rfl rfl
    have h1 := bulkAll_sum (l := l) (m := m) (by simpa using hl) (fun i a y h1 h2 => h (i + 1) a y (by simpa using h1) (by simpa using h2))
    simp only [Rows.uptoBulkAll, List.map_cons, List.sum_cons]
    omega
theorem Opens.slice {H : Type} {enc : TypeId × Value → H} {P : Program} {w : World} {t e : TypeId} {α : Type} [Inhabited α] {f : α → List Tr} {q : α → Prop} {bk : α → Nat} {s by_ : Nat} (ht : P.underlying t = some (.slice e)) (hs : P.cellsOf e = s) (hy : P.bytesOf e = by_) (hf : ∀ a, (f a).length = s) (h : Opens enc P w e f q bk) :
    Opens enc P w t (fun l : List α => [.lst (l.map f)]) (fun l => l.length * by_ ≤ reachBytes ∧ ∀ a ∈ l, q a) (fun l => (l.map bk).sum + 1) := by
  intro n cs x hx
  rcases Go.Deep.open_slice ht hx with ⟨rfl, rfl⟩ | ⟨a, len, cap, m, n', D, Pl, rfl, _, hl, hm, hmm, rfl, hel⟩
  · refine ⟨[], rfl, fun _ => ⟨by simp, by simp⟩, by simp [Rows.uptoBulk], fun j tr u hj hu => ?_⟩
    cases j with
    | zero => simp at hj hu; subst hj hu; exact .lst (size := s) (xs := []) ⟨Nat.le_refl _, Nat.zero_le _, fun _ => ⟨rfl, rfl⟩, by simp, fun j u hj => by simp at hj⟩ (fun h => absurd rfl h) rfl (fun _ h => by simp at h) (fun i cs j x u hi => by simp at hi)
    | succ j => simp at hj
  · have hmm' : m = cap := by simpa using hmm
    subst hmm'
    obtain ⟨A, hA⟩ := Go.Deep.choose_lt (α := α) (n := m) (p := fun i b => ∃ cs', w.cells? 0 (a.add (i * P.cellsOf e)) (P.cellsOf e) = some cs' ∧ cs'.length = (f b).length ∧ (((∀ m ∈ (D i).weights P e, m ≤ reachBytes) → q b) ∧ bk b ≤ Rows.uptoBulk (D i)) ∧ ∀ (j : Nat) tr u, (f b)[j]? = some tr → cs'[j]? = some u → Frz w (fun b => b < w.heap.size) tr u) (fun i hi => by
      obtain ⟨cs', h1, h2⟩ := hel i hi
      obtain ⟨b, q1, q2, q2', q3⟩ := h _ _ _ h2
      exact ⟨b, cs', h1, q1, ⟨q2, q2'⟩, q3⟩)
    have cell : ∀ i j, i < len → j < s → ∃ u, w.cell? (a.add (i * s + j)) = some u ∧ ∀ tr, (f (A i))[j]? = some tr → Frz w (fun b => b < w.heap.size) tr u := fun i j hi hj => by
      obtain ⟨cs', h1, h2, _, h3⟩ := hA i (by omega)
      rw [hs] at h1
      obtain ⟨_, c2, c3⟩ := World.cells?_some h1
      have hlt : j < cs'.length := by omega
      refine ⟨cs'[j], ?_, fun tr htr => h3 j tr _ htr (List.getElem?_eq_getElem hlt)⟩
      rw [← Go.Deep.add_add, c3 j (by omega), List.getElem?_eq_getElem hlt]
    let xs : List Value := (List.range (len * s)).map fun q => (w.cell? (a.add q)).getD (.bool false)
    have hxl : xs.length = len * s := by simp [xs]
    have hget : ∀ i j, i < len → j < s → ∃ u, xs[i * s + j]? = some u ∧ w.cell? (a.add (i * s + j)) = some u ∧ ∀ tr, (f (A i))[j]? = some tr → Frz w (fun b => b < w.heap.size) tr u := fun i j hi hj => by
      obtain ⟨u, h1, h2⟩ := cell i j hi hj
      refine ⟨u, ?_, h1, h2⟩
      simp only [xs, List.getElem?_map, List.getElem?_range (idx_lt hi hj), Option.map_some, h1, Option.getD_some]
    have hdiv : ∀ q, q < len * s → ∃ i j, i < len ∧ j < s ∧ q = i * s + j := fun q hq => by
      have hs0 : 0 < s := by
        rcases Nat.eq_zero_or_pos s with e | e
        · rw [e] at hq; omega
        · exact e
      exact ⟨q / s, q % s, (Nat.div_lt_iff_lt_mul hs0).2 hq, Nat.mod_lt _ hs0, by rw [Nat.mul_comm]; exact (Nat.div_add_mod q s).symm⟩
    have hlr : ((List.range len).map A).length = len := by simp
    refine ⟨(List.range len).map A, rfl, fun hw => ⟨?_, fun b hb => ?_⟩, ?_, fun j tr u hj hu => ?_⟩
    · have := hw ((((List.range len).map D).length + ((List.range (m - len)).map fun j => D (len + j)).length) * P.bytesOf e) (by simp only [DataW.weights, ht]; exact List.mem_cons_self ..)
      simp only [List.length_map, List.length_range, hy] at this ⊢
      exact Nat.le_trans (Nat.mul_le_mul_right _ (Nat.le_add_right _ _)) this
    · obtain ⟨i, hi, rfl⟩ := List.mem_map.1 hb
      have hi' : i < len := by simpa using hi
      obtain ⟨_, _, _, qq, _⟩ := hA i (by omega)
      refine qq.1 fun k hk => hw k ?_
      simp only [DataW.weights, ht]
      exact List.mem_cons_of_mem _ (List.mem_append_left _ (weightsAll_mem (List.mem_map.2 ⟨i, hi, rfl⟩) hk))
    · have := bulkAll_sum (l := (List.range len).map D) (m := (List.range len).map A) (bk := bk) (by simp) (fun i a y h1 h2 => by
        have hi : i < len := by have := get_lt h1; simpa using this
        simp only [List.getElem?_map, List.getElem?_range hi, Option.map_some, Option.some.injEq] at h1 h2
        subst h1 h2
        obtain ⟨_, _, _, qq, _⟩ := hA i (by omega)
        exact qq.2)
      simp only [Rows.uptoBulk]
      omega
    · cases j with
      | succ j => simp at hj
      | zero =>
        simp at hj hu
        subst hj hu
        refine .lst (size := s) (xs := xs) ⟨hl, hm, fun h => (by cases h), hxl, fun q u hq => ?_⟩ (fun hne => ?_) (by simp) (fun cs hcs => ?_) (fun i cs j x u hi hj hu => ?_)
        · have hq' := get_lt hq
          rw [hxl] at hq'
          obtain ⟨i, j, hi, hj, rfl⟩ := hdiv q hq'
          obtain ⟨u', h1, h2, _⟩ := hget i j hi hj
          rw [h1] at hq; cases hq
          exact h2
        · have hpos : 0 < xs.length := List.length_pos_iff.2 hne
          rw [hxl] at hpos
          obtain ⟨i, j, hi, hj, he⟩ := hdiv 0 hpos
          obtain ⟨u', _, h2, _⟩ := hget i j hi hj
          have := World.block_lt_of_cell? w _ h2
          rw [add_block] at this
          exact this
        · simp at hcs
          obtain ⟨i, _, rfl⟩ := hcs
          exact hf _
        · have hi' : i < len := by have := get_lt hi; simpa using this
          simp only [List.getElem?_map, List.map_map, List.getElem?_range hi', Option.map_some, Option.some.injEq, Function.comp] at hi
          subst hi
          have hj' := get_lt hj
          rw [hf] at hj'
          obtain ⟨u', h1, _, h3⟩ := hget i j hi' hj'
          rw [h1] at hu; cases hu
          exact h3 x hj
def OpensF {H : Type} (enc : TypeId × Value → H) (P : Program) (w : World) (fs : List Field) (off : Nat) {α : Type} (f : α → List Tr) (s : α → Prop) (bk : α → Nat) : Prop :=
  ∀ (n : Nat) (cs : List Value) (ys : List (DataW H × List MemPlace)), ys.length = fs.length → (∀ (i : Nat) (fd : Field), fs[i]? = some fd → DataW.trod enc P w 0 (fun _ => true) true n fd.type ((cs.drop fd.offset).take (P.cellsOf fd.type)) = ys[i]?) →
    ∃ a, ((∀ m ∈ DataW.weightsEach P (fs.map (·.type)) (ys.map (·.1)), m ≤ reachBytes) → s a) ∧ bk a ≤ Rows.uptoBulkAll (ys.map (·.1)) ∧ ∀ (j : Nat) tr u, (f a)[j]? = some tr → cs[off + j]? = some u → Frz w (fun b => b < w.heap.size) tr u
theorem OpensF.nil {H : Type} {enc : TypeId × Value → H} {P : Program} {w : World} {off : Nat} : OpensF enc P w [] off (fun _ : Unit => []) (fun _ => True) (fun _ => 0) :=
  fun n cs ys _ _ => ⟨(), fun _ => trivial, Nat.zero_le _, fun j tr u hj => by simp at hj⟩
theorem OpensF.cons {H : Type} {enc : TypeId × Value → H} {P : Program} {w : World} {off s : Nat} {fd : Field} {fs : List Field} {α β : Type} {f : α → List Tr} {f' : β → List Tr} {q : α → Prop} {q' : β → Prop} {bk : α → Nat} {bk' : β → Nat} {t : TypeId}
    (htt : fd.type = t) (ho : fd.offset = off) (hs : P.cellsOf t = s) (hf : ∀ a, (f a).length = s) (h : Opens enc P w t f q bk) (k : OpensF enc P w fs (off + s) f' q' bk') :
    OpensF enc P w (fd :: fs) off (fun p : α × β => f p.1 ++ f' p.2) (fun p => q p.1 ∧ q' p.2) (fun p => bk p.1 + bk' p.2) := by
  subst htt
  intro n cs ys hl hy
  cases ys with
  | nil => simp at hl
  | cons y ys =>
    have h0 := hy 0 fd rfl
    obtain ⟨a, q1, q2, q2', q3⟩ := h _ _ _ h0
    obtain ⟨b, r2, r2', r3⟩ := k n cs ys (by simpa using hl) (fun i fd' h1 => by have := hy (i + 1) fd' (by simpa using h1); simpa using this)
    rw [hs, hf, ho, List.length_take, List.length_drop] at q1
    refine ⟨(a, b), fun hw => ⟨q2 fun m hm => hw m (by simp only [List.map_cons, DataW.weightsEach, List.mem_append]; exact .inl hm), r2 fun m hm => hw m (by simp only [List.map_cons, DataW.weightsEach, List.mem_append]; exact .inr hm)⟩, by simp only [List.map_cons, Rows.uptoBulkAll]; omega, fun j tr u hj hu => ?_⟩
    by_cases hjs : j < s
    · rw [List.getElem?_append_left (by rw [hf]; exact hjs)] at hj
      refine q3 j tr u hj ?_
      rw [hs, ho, List.getElem?_take, if_pos hjs, List.getElem?_drop]
      exact hu
    · rw [List.getElem?_append_right (by rw [hf]; omega), hf] at hj
      refine r3 (j - s) tr u hj ?_
      rw [← hu]; congr 1; omega
theorem Opens.struct {H : Type} {enc : TypeId × Value → H} {P : Program} {w : World} {t : TypeId} {fs : List Field} {n : Nat} {α : Type} {f : α → List Tr} {q : α → Prop} {bk : α → Nat} (ht : P.underlying t = some (.struct fs.toArray)) (hn : P.cellsOf t = n) (hf : ∀ a, (f a).length = n) (h : OpensF enc P w fs 0 f q bk) : Opens enc P w t f q bk := by
  intro m cs x hx
  obtain ⟨xs, m', rfl, rfl, h1, h2, h3⟩ := DataW.trod_struct ht hx
  obtain ⟨a, q1, q2, q3⟩ := h m' cs xs (by simpa using h2) (fun i fd hi => h3 i fd (by simpa using hi))
  refine ⟨a, by rw [hf, h1, hn], fun hw => q1 fun k hk => hw k ?_, ?_, fun j tr u hj hu => q3 j tr u hj (by simpa using hu)⟩
  · simp only [DataW.weights, ht]
    simpa using hk
  · simp only [Rows.uptoBulk]; omega

def toAV : Tr → AV
  | .v x => .t (.v x)
  | .lst els => .ln els
theorem val_toAV {Kn : Nat → Nat → Prop} {ρ : Rho} {w : World} {Z Y : Nat → Prop} (hy : ∀ b, Z b → Y b) {x : Tr} {v : Value} (h : Frz w Z x v) : Val Kn ρ w Z Y (toAV x) v := by
  cases x with
  | v x => exact .t h
  | lst els =>
    obtain ⟨a, c, size, xs, rfl, hr, hz, he⟩ := h.open
    exact .ln hr (fun hne => hy _ (hz hne)) rfl he
def argAV (agg : Bool) (l : List Tr) : AV := bif agg then .agg (l.map toAV) else match l with
  | [x] => toAV x
  | _ => .any
def isAgg (P : Program) (t : TypeId) : Option Bool := match P.underlying t with
  | some (.struct _) => some true
  | some (.int _) | some .bool | some .string | some (.slice _) => some false
  | _ => none
theorem isAgg_struct {P : Program} {t : TypeId} (h : isAgg P t = some true) : ∃ fs, P.underlying t = some (.struct fs) := by
  unfold isAgg at h
  split at h
  · rename_i fs ht; exact ⟨fs, ht⟩
  all_goals cases h
theorem isAgg_cell {P : Program} {t : TypeId} (h : isAgg P t = some false) {w : World} {r : Reach} {b0 : Nat} {v : Value} (hv : Value.okWide P w r b0 t v) : v.cells.toList = [v] := by
  unfold isAgg at h
  split at h
  · cases h
  · rename_i ht; obtain ⟨n, rfl⟩ := okWide_int ht hv; rfl
  · rename_i ht; obtain ⟨n, rfl⟩ := okWide_bool ht hv; rfl
  · rename_i ht; obtain ⟨n, rfl⟩ := okWide_string ht hv; rfl
  · rename_i ht; obtain ⟨a, l, c, rfl⟩ := okWide_slice ht hv; rfl
  · cases h
theorem Opens.arg {H : Type} {enc : TypeId × Value → H} {P : Program} {w : World} {t : TypeId} {α : Type} {f : α → List Tr} {s : α → Prop} {bk : α → Nat} (h : Opens enc P w t f s bk) {b : Bool} (hb : isAgg P t = some b) (h1 : b = false → ∀ a, (f a).length = 1)
    {r : Reach} {b0 : Nat} {v : Value} {d : DataW H} {ps : List MemPlace} (hv : Value.okWide P w r b0 t v) (hd : DataW.Trod enc P w 0 (fun _ => true) true t v d ps) :
    ∃ a, ((∀ m ∈ d.weights P t, m ≤ reachBytes) → s a) ∧ bk a ≤ Rows.uptoBulk d ∧ ∀ (Kn : Nat → Nat → Prop) (ρ : Rho), Val Kn ρ w (fun b => b < w.heap.size) (fun b => b < w.heap.size) (argAV b (f a)) v := by
  obtain ⟨fuel, hd⟩ := hd
  obtain ⟨a, q1, q2, q3, q4⟩ := h _ _ _ hd
  refine ⟨a, q2, q3, fun Kn ρ => ?_⟩
  cases b with
  | true =>
    obtain ⟨fs, ht⟩ := isAgg_struct hb
    obtain ⟨cs, rfl, hsz⟩ := okWide_struct ht hv
    have e : cs = cs.toList.toArray := by simp
    rw [e]
    simp only [Value.cells] at q1 q4
    refine .agg (by simpa using q1.symm) (fun u hu => ?_) (fun j x u hj hu => ?_)
    · obtain ⟨j, hj⟩ := List.getElem?_of_mem hu
      have hl := get_lt hj
      rw [q1] at hl
      exact (q4 j _ u (List.getElem?_eq_getElem hl) hj).one
    · simp only [List.getElem?_map, Option.map_eq_some_iff] at hj
      obtain ⟨y, hy, rfl⟩ := hj
      exact val_toAV (fun _ h => h) (q4 j y u hy hu)
  | false =>
    have hl := h1 rfl a
    match hfa : f a, hl with
    | [x], _ =>
      rw [hfa] at q1 q4
      show Val Kn ρ w _ _ (toAV x) v
      have hna := isAgg_cell hb hv
      rw [hna] at q4
      exact val_toAV (fun _ h => h) (q4 0 x v rfl rfl)
end Go.Proofs.Ytphcebioiipdpaa

namespace Go.Proofs.Ytphcebioiipdpaa
set_option linter.unusedVariables false
set_option linter.unusedSimpArgs false
set_option linter.unnecessarySimpa false
open Go.ChangeShapes Go.WideShapes Go.ChangeAt Go.RowKit

theorem trodAll_stays {H : Type} {enc : TypeId × Value → H} {P : Program} (hl : laidOutB P = true) {W W' : World} (hb : Below W.heap.size W W') {sp : Nat → Bool} :
    ∀ (ts : List TypeId) (vs : List Value) (ds : List (DataW H)) (ps : List MemPlace), (∀ t ∈ ts, P.readableRec t = true ∧ t < P.types.size) → DataW.TrodAll enc P W 0 (fun _ => true) true ts vs ds ps →
      (∀ x ∈ ps, x.block < W.heap.size) → (∀ x ∈ ps, sp x.block = true) → DataW.TrodAll enc P W' 0 sp true ts vs ds ps := by
  intro ts
  induction ts with
  | nil =>
    intro vs ds ps _ h _ _
    obtain ⟨rfl, rfl, rfl⟩ := trodAll_nil h
    exact rfl
  | cons t ts ih =>
    intro vs ds ps hr h hlt hsp
    obtain ⟨v, vs, d, ds, p, q, rfl, rfl, rfl, h1, h2⟩ := trodAll_cons h
    refine ⟨p, q, ?_, ih vs ds q (fun t ht => hr t (List.mem_cons_of_mem _ ht)) h2 (fun x hx => hlt x (List.mem_append_right _ hx)) (fun x hx => hsp x (List.mem_append_right _ hx)), rfl⟩
    exact WideElems.Trod_stays hl (hr t (List.mem_cons_self ..)).1 (hr t (List.mem_cons_self ..)).2 h1 (fun x hx => hb.same (hlt x (List.mem_append_left _ hx))) (fun x hx => hsp x (List.mem_append_left _ hx))

theorem law_post {H : Type} {enc : TypeId × Value → H} {P : Program} {f : Func} {s : ChangeSpec} {apart fresh handsOn again : Bool} {W W' : World} {args : Array Value} {ds gs : List (DataW H)} {before : List MemPlace} {tb : TypeId}
    (hl : laidOutB P = true) (hr : ∀ t ∈ f.params.toList, P.readableRec t = true ∧ t < P.types.size) (hres : f.resultTypes = #[tb]) (htb : P.underlying tb = some .bool) (hvars : s.vars = [])
    (hW : DataW.Whole enc P f.params.toList s.vars apart W args.toList ds gs before)
    (hfn : (s.fn H (ds ++ gs)).results = [.lit (.bool true)] ∧ (s.fn H (ds ++ gs)).args = ds ∧ (s.fn H (ds ++ gs)).vars = [])
    (hb : Below W.heap.size W W') : s.post enc P f apart fresh handsOn again W args (.bool true) W' := by
  have hlt : ∀ p ∈ before, p.block < W.heap.size := fun p hp => hW.lt p hp
  have hold : ∀ p ∈ before, (fun b => decide (b < W.heap.size)) p.block = true := fun p hp => by simpa using hlt p hp
  have hW' := hW
  obtain ⟨p, q, hA, hV, hps, hz, hn⟩ := hW
  rw [hvars] at hV
  obtain ⟨rfl, rfl⟩ := trodVars_none hV
  have hpb : before = p := by simpa using hps
  subst hpb
  have hres' : ∀ (b : Nat) (sp : Nat → Bool) (hd : Bool), DataW.TrodAll enc P W' b sp hd f.resultTypes.toList ((Value.bool true).resultList f.resultTypes.size) [.lit (.bool true)] [] := fun b sp hd => by
    rw [hres]
    exact trodAll_mk1 (shut_bool htb _)
  have hargs : ∀ sp : Nat → Bool, (∀ p ∈ before, sp p.block = true) → DataW.TrodAll enc P W' 0 sp true f.params.toList args.toList ds before := fun sp hsp => trodAll_stays hl hb _ _ _ _ hr hA hlt hsp
  have hvs : ∀ sp : Nat → Bool, DataW.TrodVars enc P W' sp s.vars [] [] := fun sp => by rw [hvars]; exact rfl
  refine ⟨ds, [], before, [], before, [], hW', ?_, ?_, ?_, World.keptBut_mono (fun p hp => ⟨hp, Or.inr (Or.inl hp)⟩) (hb.frame (· ∈ before)), fun _ => ?_⟩
  · rw [hfn.1]; exact hres' _ _ _
  · rw [hfn.2.1]; exact hargs _ hold
  · rw [hfn.2.2]; exact hvs _
  · refine ⟨ok_one hres rfl (okWide_bool_mk htb _), [.lit (.bool true)] ++ ds, [], [] ++ before ++ [], ⟨[] ++ before, [], trodAll_append (hargs _ (fun _ _ => rfl)) (hres' _ _ _), hvs _, rfl, ?_, ?_⟩, ?_⟩
    · intro b off hp
      have hin : MemPlace.cell b off ∈ before := by simpa using hp
      rw [hb.frozen (hlt _ hin)]
      exact hz b off hin
    · intro ha
      simpa using hn ha
    · intro p hp _
      simpa using hp
#print axioms law_post
end Go.Proofs.Ytphcebioiipdpaa

namespace Go.Proofs.Ytphcebioiipdpaa
set_option linter.unusedVariables false
set_option linter.unusedSimpArgs false
set_option linter.unnecessarySimpa false
open Go.RowKit Go.ChangeShapes Go.WideShapes Go.ChangeAt Go.Joins Go.Deep
theorem own : ownKnob Try.prog.godebug = none := by kernel_rfl
theorem laidOut : laidOutB Try.prog = true := by kernel_rfl
def oldEnv (W : World) : Env := { W := W, D := fun b => W.heap.size ≤ b, H := [], ρ := fun _ _ => ⟨none, 0, 0⟩, Z := fun b => b < W.heap.size, Y := fun b => b < W.heap.size, big := fun _ h => h, yd := fun b h1 h2 => by omega }
theorem Cd.law {P : Program} {f : FuncId} {args : List AV} (h : Cd P f args (.t (.v (.bool true))) []) {W : World} {vs : List Value} (hv : AVs (Val (Kn []) (oldEnv W).ρ W (oldEnv W).Z (oldEnv W).Y) args vs) :
    Calls P f vs.toArray W fun e W' => e = .returned (.bool true) ∧ Below W.heap.size W W' := by
  refine (h (oldEnv W) vs rfl ⟨fun i o hi => by simp [oldEnv] at hi, fun i j o o' b hi => by simp [oldEnv] at hi, fun i o b hi => by simp [oldEnv] at hi, fun b h => h, fun b h => h⟩ (fun i o b hi => by simp at hi) hv).mono ?_
  rintro en w' ⟨v, r, heap, ρ, Z, Y, rfl, ⟨rfl, rfl⟩, hok, hval⟩
  have e : v = .bool true := by
    cases hval with
    | t h => cases h; rfl
  subst e
  exact ⟨rfl, hok.os, hok.tape, hok.output, hok.size, fun k hk => hok.keep k (by simp only [oldEnv]; omega)⟩
theorem AVs.nil {R : AV → Value → Prop} : AVs R [] [] := ⟨rfl, fun j x u h => by simp at h⟩
theorem AVs.cons {R : AV → Value → Prop} {x : AV} {v : Value} {l : List AV} {us : List Value} (h : R x v) (k : AVs R l us) : AVs R (x :: l) (v :: us) := by
  refine ⟨by simp [k.len], fun j y u hj hu => ?_⟩
  cases j with
  | zero => simp at hj hu; subst hj hu; exact h
  | succ j => exact k.at_ j y u (by simpa using hj) (by simpa using hu)
theorem wt_of {H : Type} {P : Program} {ts us : List TypeId} {ds gs : List (DataW H)} (h : (DataW.weightsEach P (ts ++ us) (ds ++ gs)).all (· ≤ reachBytes) = true) {j : Nat} {t : TypeId} {d : DataW H} (ht : ts[j]? = some t) (hd : ds[j]? = some d) : ∀ m ∈ d.weights P t, m ≤ reachBytes := fun m hm => by
  have h1 : (ts ++ us)[j]? = some t := by rw [List.getElem?_append_left (get_lt ht)]; exact ht
  have h2 : (ds ++ gs)[j]? = some d := by rw [List.getElem?_append_left (get_lt hd)]; exact hd
  have := List.all_eq_true.1 h _ (DataW.weights_mem_each h1 h2 m hm)
  simpa using this
theorem i64_wf {x : Int} (h : (Lit.int .i64 x).wf = true) : -9223372036854775808 ≤ x ∧ x ≤ 9223372036854775807 := by have := bounds_i64 h; omega
inductive Wa : AV → AV → Prop
  | any (x : AV) : Wa x .any
  | refl (x : AV) : Wa x x
  | agg {l l' : List AV} (h1 : l.length = l'.length) (h : ∀ (j : Nat) x y, l[j]? = some x → l'[j]? = some y → Wa x y) : Wa (.agg l) (.agg l')
inductive WaL : List AV → List AV → Prop
  | nil : WaL [] []
  | cons {x y : AV} {l l' : List AV} (h : Wa x y) (k : WaL l l') : WaL (x :: l) (y :: l')
theorem WaL.get {l l' : List AV} (h : WaL l l') : l.length = l'.length ∧ ∀ (j : Nat) x y, l[j]? = some x → l'[j]? = some y → Wa x y := by
  induction h with
  | nil => exact ⟨rfl, fun j x y h => by simp at h⟩
  | @cons x y l l' h k ih =>
    refine ⟨by simp [ih.1], fun j a b ha hb => ?_⟩
    cases j with
    | zero => simp at ha hb; subst ha hb; exact h
    | succ j => exact ih.2 j a b (by simpa using ha) (by simpa using hb)
theorem Wa.aggL {l l' : List AV} (h : WaL l l') : Wa (.agg l) (.agg l') := .agg h.get.1 h.get.2
theorem Wa.val {Kn : Nat → Nat → Prop} {ρ : Rho} {w : World} {Z Y : Nat → Prop} {x y : AV} (h : Wa x y) : ∀ {v : Value}, Val Kn ρ w Z Y x v → Val Kn ρ w Z Y y v := by
  induction h with
  | any x => intro v _; exact .any v
  | refl x => intro v h; exact h
  | @agg l l' h1 h ih =>
    intro v hv
    cases hv with
    | @agg _ us e ho hu =>
      refine .agg (h1.symm.trans e) ho fun j y u hj hu' => ?_
      have hl := get_lt hj
      rw [← h1] at hl
      exact ih j _ y (List.getElem?_eq_getElem hl) hj (hu j _ u (List.getElem?_eq_getElem hl) hu')
theorem headD {α : Type} {l : List α} {x : α} (h : l.head? = some x) : ∃ r, l = x :: r := by
  cases l with
  | nil => cases h
  | cons y r => cases h; exact ⟨r, rfl⟩
theorem strip_cut (rest : List (List Char)) : stripLifts liftWords ("cut".toList :: rest) = ([], "cut".toList :: rest) := by
  simp [stripLifts, liftWords]
theorem mayEnter_cut {P : Program} (h : (behindMainWord (wordsSigns P.initOrder.toList)).head? = some "cut".toList) (h1 : P.laysLater = false) (h2 : P.bearsReflect = false) (h3 : P.doorFits [] = true) : P.mayEnter = true := by
  obtain ⟨rest, hr⟩ := headD h
  unfold Program.mayEnter
  rw [hr]
  simp only [strip_cut, h1, h2, h3]
  simp
theorem liftsFinal_cut {P : Program} (h : (behindMainWord (wordsSigns P.initOrder.toList)).head? = some "cut".toList) : P.liftsFinal = false := by
  obtain ⟨rest, hr⟩ := headD h
  unfold Program.liftsFinal Program.headLifts
  rw [hr]
  simp only [strip_cut]
  simp
theorem make_cut {P : Program} (h : (behindMainWord (wordsSigns P.initOrder.toList)).head? = some "cut".toList) : P.make = some .cut := by
  obtain ⟨rest, hr⟩ := headD h
  unfold Program.make
  rw [hr]
  simp
set_option maxRecDepth 100000 in
theorem cutHead : (behindMainWord (wordsSigns Try.prog.initOrder.toList)).head? = some "cut".toList := by
  have h := (congrArg String.toList (rfl : Try.prog.initOrder = String.ofList _)).trans String.toList_ofList
  rw [h]
  decide +kernel
theorem mayEnter_ok : Try.prog.mayEnter = true := mayEnter_cut cutHead (by kernel_rfl) (by kernel_rfl) (by kernel_rfl)
theorem liftsFinal_ok : Try.prog.liftsFinal = false := liftsFinal_cut cutHead
theorem make_ok : Try.prog.make = some .cut := make_cut cutHead
theorem and_mk {a b : Bool} (h : a = true) (k : b = true) : (a && b) = true := by simp [h, k]
end Go.Proofs.Ytphcebioiipdpaa


namespace Go.Proofs.Ytphcebioiipdpaa
set_option linter.unusedVariables false
set_option linter.unusedSimpArgs false
set_option linter.unnecessarySimpa false
open Go.RowKit
set_option maxHeartbeats 32000000
attribute [local irreducible] AL AW RG Fin C Cd Cio thenQ blockQ retQ
theorem mixed : Try.prog.follows .mixedOrders = true := by kernel_rfl
abbrev bo (b : Bool) : AV := .t (.v (.bool b))
abbrev i64 (x : Int) : AV := .t (.v (.int .i64 x))
def tI (x : Int) : List Tr := [.v (.int .i64 x)]
structure Rst where
  seq : Int
  cas : Int
  code : Int
  value : Int
  deriving DecidableEq, Inhabited
def tR (r : Rst) : List Tr := [.v (.int .i64 r.seq), .v (.int .i64 r.cas), .v (.int .i64 r.code), .v (.int .i64 r.value)]
set_option maxRecDepth 100000 in
set_option maxHeartbeats 4000000 in
theorem clone_I (l : List Int) (h : l.length ≤ 17592186044416) : Cd Try.prog 81 [.ln (l.map tI)] (.sl 0 0 l.length) [.row 0 3 1 (l.map tI)] := by
  refine Cd.enter' Try.func81 rfl Try.ntmps81 rfl ?_
  repeat' (first | ((with_reducible refine kAL ?_); (first | (refine kL 1 rfl ?_; (first | refine A_move rfl rfl _ (.inr rfl) (y := .sl _ _ _) rfl ?_ | refine A_move rfl rfl _ (.inr rfl) (y := .nl) rfl ?_)) | refine A_move rfl rfl _ (.inl rfl) (y := .ln _) rfl ?_ | (refine kL 713 rfl ?_; (refine A_eqnil rfl rfl 22 _ _ rfl ud22 rfl (fun b hb => ?_))) | (refine kL 719 rfl ?_; refine A_lit0 rfl rfl 22 rfl ud22 inf3 ?_) | (refine kL 12 rfl ?_; (refine A_append_nl rfl rfl _ _ 22 rfl ud22 inf3 rfl rfl (by exact .ln (by exact each_map (fun _ => rfl))) qB qB (by ((try simp only [List.take_zero, List.take_succ_cons, List.drop_zero, List.drop_succ_cons, List.nil_append, List.cons_append, List.append_nil, List.length_cons, List.length_nil, List.set_cons_zero, List.set_cons_succ, List.map_cons, List.map_nil, List.take_nil, List.drop_nil, Nat.zero_add, Nat.add_zero, Nat.reduceAdd, Nat.reduceSub]); rfl)) (.push qL qN) qS ?_)) | refine AL.nil ?_)) | with_reducible refine AW.at_region _ ?_ | (with_reducible (first | refine wk0 ?_ | refine wk2 ?_ | refine wk3 ?_ | refine wk9 ?_ | refine wkb ?_ | refine wkd ?_)) | refine kcc rfl (fun hc => ?_) (fun hc => ?_))
  · have hl : l = [] := by simpa using hb hc
    subst hl
    refine Fin.wk (Wk.own 2 rfl 3 1 (.push rfl rfl)) ?_
    exact Fin.q Try.results81 (.cons (.tmp rfl) .nil) [0]
  · exact Fin.q Try.results81 (.cons (.tmp rfl) .nil) [0]
end Go.Proofs.Ytphcebioiipdpaa


namespace Go.Proofs.Ytphcebioiipdpaa
set_option linter.unusedVariables false
set_option linter.unusedSimpArgs false
set_option linter.unnecessarySimpa false
open Go.RowKit Go.ChangeShapes Go.WideShapes
def sI (x : Int) : Prop := -9223372036854775808 ≤ x ∧ x ≤ 9223372036854775807
def sB (_ : Bool) : Prop := True
def tB (x : Bool) : List Tr := [.v (.bool x)]
def b1 {α : Type} (_ : α) : Nat := 1
def sL {α : Type} (s : α → Prop) (k : Nat) (l : List α) : Prop := l.length * k ≤ reachBytes ∧ ∀ a ∈ l, s a
def bL {α : Type} (b : α → Nat) (l : List α) : Nat := (l.map b).sum + 1
def tL {α : Type} (f : α → List Tr) (l : List α) : List Tr := [.lst (l.map f)]
section
variable {H : Type} {enc : TypeId × Value → H} {W : World}
theorem o_int : Opens enc Try.prog W 3 tI sI b1 := Opens.map (Opens.int Try.underlying3) id (fun _ => rfl) (fun _ h => i64_wf h) (fun _ => Nat.le_refl _)
theorem o_bool : Opens enc Try.prog W 4 tB sB b1 := Opens.map (Opens.bool Try.underlying4) id (fun _ => rfl) (fun _ h => trivial) (fun _ => Nat.le_refl _)
theorem o_ints : Opens enc Try.prog W 22 (tL tI) (sL sI 8) (bL b1) := Opens.slice Try.underlying22 (by kernel_rfl) (by kernel_rfl) (fun _ => rfl) o_int
theorem o_errno : Opens enc Try.prog W 48 tI sI b1 := Opens.map (Opens.int Try.underlying48) id (fun _ => rfl) (fun _ h => i64_wf h) (fun _ => Nat.le_refl _)
end
def sR (x : Rst) : Prop := sI x.seq ∧ sI x.cas ∧ sI x.code ∧ sI x.value
def bR (x : Rst) : Nat := b1 x.seq + b1 x.cas + b1 x.code + b1 x.value
theorem o_R {H : Type} {enc : TypeId × Value → H} {W : World} : Opens enc Try.prog W 50 tR sR bR := by
  refine Opens.map (Opens.struct (n := 4) Try.underlying50 (by kernel_rfl) (fun _ => rfl) (OpensF.cons (s := 1) rfl rfl (by kernel_rfl) (fun _ => rfl) o_int (OpensF.cons (s := 1) rfl rfl (by kernel_rfl) (fun _ => rfl) o_int (OpensF.cons (s := 1) rfl rfl (by kernel_rfl) (fun _ => rfl) o_errno (OpensF.cons (s := 1) rfl rfl (by kernel_rfl) (fun _ => rfl) o_int OpensF.nil))))) (fun (p : Int × Int × Int × Int × Unit) => ⟨p.1, p.2.1, p.2.2.1, p.2.2.2.1⟩) (fun p => ?_) (fun p h => ?_) (fun p => ?_)
  · simp [tR, List.append_nil, tI, tL]
  · obtain ⟨h0, h1, h2, h3, _⟩ := h; exact ⟨h0, h1, h2, h3⟩
  · exact Nat.le_of_eq (by simp only [bR, Nat.add_assoc, Nat.add_zero])



structure DCase where
  dir : Int
  handle : Int
  value : Int
  deriving DecidableEq, Inhabited
def tCs (x : DCase) : List Tr := tI x.dir ++ tI x.handle ++ tI x.value
def sCs (x : DCase) : Prop := sI x.dir ∧ sI x.handle ∧ sI x.value
def bCs (x : DCase) : Nat := b1 x.dir + b1 x.handle + b1 x.value
theorem o_Cs {H : Type} {enc : TypeId × Value → H} {W : World} : Opens enc Try.prog W 45 tCs sCs bCs := by
  refine Opens.map (Opens.struct (n := 3) Try.underlying45 (by kernel_rfl) (fun _ => rfl) (OpensF.cons (s := 1) rfl rfl (by kernel_rfl) (fun _ => rfl) o_int (OpensF.cons (s := 1) rfl rfl (by kernel_rfl) (fun _ => rfl) o_int (OpensF.cons (s := 1) rfl rfl (by kernel_rfl) (fun _ => rfl) o_int OpensF.nil)))) (fun (p : Int × Int × Int × Unit) => ⟨p.1, p.2.1, p.2.2.1⟩) (fun p => ?_) (fun p h => ?_) (fun p => ?_)
  · simp [tCs, List.append_nil, tI, tL]
  · obtain ⟨h0, h1, h2, _⟩ := h; exact ⟨h0, h1, h2⟩
  · exact Nat.le_of_eq (by simp only [bCs, Nat.add_assoc, Nat.add_zero])
theorem o_Rs {H : Type} {enc : TypeId × Value → H} {W : World} : Opens enc Try.prog W 27 (tL tR) (sL sR 32) (bL bR) := Opens.slice (s := 4) Try.underlying27 (by kernel_rfl) (by kernel_rfl) (fun _ => rfl) o_R


theorem o_Css {H : Type} {enc : TypeId × Value → H} {W : World} : Opens enc Try.prog W 30 (tL tCs) (sL sCs 24) (bL bCs) := Opens.slice (s := 3) Try.underlying30 (by kernel_rfl) (by kernel_rfl) (fun _ => rfl) o_Cs
structure DReq where
  kind : Int
  arg : Int
  value : Int
  dflt : Bool
  cases : List DCase
  deriving DecidableEq, Inhabited
def tRq (x : DReq) : List Tr := tI x.kind ++ tI x.arg ++ tI x.value ++ tB x.dflt ++ tL tCs x.cases
def sRq (x : DReq) : Prop := sI x.kind ∧ sI x.arg ∧ sI x.value ∧ sB x.dflt ∧ (sL sCs 24) x.cases
def bRq (x : DReq) : Nat := b1 x.kind + b1 x.arg + b1 x.value + b1 x.dflt + (bL bCs) x.cases
theorem o_Rq {H : Type} {enc : TypeId × Value → H} {W : World} : Opens enc Try.prog W 32 tRq sRq bRq := by
  refine Opens.map (Opens.struct (n := 5) Try.underlying32 (by kernel_rfl) (fun _ => rfl) (OpensF.cons (s := 1) rfl rfl (by kernel_rfl) (fun _ => rfl) o_int (OpensF.cons (s := 1) rfl rfl (by kernel_rfl) (fun _ => rfl) o_int (OpensF.cons (s := 1) rfl rfl (by kernel_rfl) (fun _ => rfl) o_int (OpensF.cons (s := 1) rfl rfl (by kernel_rfl) (fun _ => rfl) o_bool (OpensF.cons (s := 1) rfl rfl (by kernel_rfl) (fun _ => rfl) o_Css OpensF.nil)))))) (fun (p : Int × Int × Int × Bool × List DCase × Unit) => ⟨p.1, p.2.1, p.2.2.1, p.2.2.2.1, p.2.2.2.2.1⟩) (fun p => ?_) (fun p h => ?_) (fun p => ?_)
  · simp [tRq, List.append_nil, tB, tCs, tI, tL]
  · obtain ⟨h0, h1, h2, h3, h4, _⟩ := h; exact ⟨h0, h1, h2, h3, h4⟩
  · exact Nat.le_of_eq (by simp only [bRq, Nat.add_assoc, Nat.add_zero])


structure DTold where
  thread : Int
  result : Rst
  deriving DecidableEq, Inhabited
def tTd (x : DTold) : List Tr := tI x.thread ++ tR x.result
structure DWait where
  on : Bool
  ticket : Int
  seq : Int
  cases : List DCase
  deriving DecidableEq, Inhabited
def tWt (x : DWait) : List Tr := tB x.on ++ tI x.ticket ++ tI x.seq ++ tL tCs x.cases
def sWt (x : DWait) : Prop := sB x.on ∧ sI x.ticket ∧ sI x.seq ∧ (sL sCs 24) x.cases
def bWt (x : DWait) : Nat := b1 x.on + b1 x.ticket + b1 x.seq + (bL bCs) x.cases
theorem o_Wt {H : Type} {enc : TypeId × Value → H} {W : World} : Opens enc Try.prog W 43 tWt sWt bWt := by
  refine Opens.map (Opens.struct (n := 4) Try.underlying43 (by kernel_rfl) (fun _ => rfl) (OpensF.cons (s := 1) rfl rfl (by kernel_rfl) (fun _ => rfl) o_bool (OpensF.cons (s := 1) rfl rfl (by kernel_rfl) (fun _ => rfl) o_int (OpensF.cons (s := 1) rfl rfl (by kernel_rfl) (fun _ => rfl) o_int (OpensF.cons (s := 1) rfl rfl (by kernel_rfl) (fun _ => rfl) o_Css OpensF.nil))))) (fun (p : Bool × Int × Int × List DCase × Unit) => ⟨p.1, p.2.1, p.2.2.1, p.2.2.2.1⟩) (fun p => ?_) (fun p h => ?_) (fun p => ?_)
  · simp [tWt, List.append_nil, tB, tCs, tI, tL]
  · obtain ⟨h0, h1, h2, h3, _⟩ := h; exact ⟨h0, h1, h2, h3⟩
  · exact Nat.le_of_eq (by simp only [bWt, Nat.add_assoc, Nat.add_zero])
structure DChan where
  gen : Int
  cap : Int
  used : Bool
  closed : Bool
  buf : List Int
  deriving DecidableEq, Inhabited
def tCh (x : DChan) : List Tr := tI x.gen ++ tI x.cap ++ tB x.used ++ tB x.closed ++ tL tI x.buf
def sCh (x : DChan) : Prop := sI x.gen ∧ sI x.cap ∧ sB x.used ∧ sB x.closed ∧ (sL sI 8) x.buf
def bCh (x : DChan) : Nat := b1 x.gen + b1 x.cap + b1 x.used + b1 x.closed + (bL b1) x.buf
theorem o_Ch {H : Type} {enc : TypeId × Value → H} {W : World} : Opens enc Try.prog W 66 tCh sCh bCh := by
  refine Opens.map (Opens.struct (n := 5) Try.underlying66 (by kernel_rfl) (fun _ => rfl) (OpensF.cons (s := 1) rfl rfl (by kernel_rfl) (fun _ => rfl) o_int (OpensF.cons (s := 1) rfl rfl (by kernel_rfl) (fun _ => rfl) o_int (OpensF.cons (s := 1) rfl rfl (by kernel_rfl) (fun _ => rfl) o_bool (OpensF.cons (s := 1) rfl rfl (by kernel_rfl) (fun _ => rfl) o_bool (OpensF.cons (s := 1) rfl rfl (by kernel_rfl) (fun _ => rfl) o_ints OpensF.nil)))))) (fun (p : Int × Int × Bool × Bool × List Int × Unit) => ⟨p.1, p.2.1, p.2.2.1, p.2.2.2.1, p.2.2.2.2.1⟩) (fun p => ?_) (fun p h => ?_) (fun p => ?_)
  · simp [tCh, List.append_nil, tB, tI, tL]
  · obtain ⟨h0, h1, h2, h3, h4, _⟩ := h; exact ⟨h0, h1, h2, h3, h4⟩
  · exact Nat.le_of_eq (by simp only [bCh, Nat.add_assoc, Nat.add_zero])



theorem o_Wts {H : Type} {enc : TypeId × Value → H} {W : World} : Opens enc Try.prog W 26 (tL tWt) (sL sWt 48) (bL bWt) := Opens.slice (s := 4) Try.underlying26 (by kernel_rfl) (by kernel_rfl) (fun _ => rfl) o_Wt
theorem o_Chs {H : Type} {enc : TypeId × Value → H} {W : World} : Opens enc Try.prog W 25 (tL tCh) (sL sCh 48) (bL bCh) := Opens.slice (s := 5) Try.underlying25 (by kernel_rfl) (by kernel_rfl) (fun _ => rfl) o_Ch




structure DHall where
  ticket : Int
  chans : List DChan
  waits : List DWait
  done : List Rst
  deriving DecidableEq, Inhabited
def tHl (x : DHall) : List Tr := tI x.ticket ++ tL tCh x.chans ++ tL tWt x.waits ++ tL tR x.done
def sHl (x : DHall) : Prop := sI x.ticket ∧ (sL sCh 48) x.chans ∧ (sL sWt 48) x.waits ∧ (sL sR 32) x.done
def bHl (x : DHall) : Nat := b1 x.ticket + (bL bCh) x.chans + (bL bWt) x.waits + (bL bR) x.done
theorem o_Hl {H : Type} {enc : TypeId × Value → H} {W : World} : Opens enc Try.prog W 29 tHl sHl bHl := by
  refine Opens.map (Opens.struct (n := 4) Try.underlying29 (by kernel_rfl) (fun _ => rfl) (OpensF.cons (s := 1) rfl rfl (by kernel_rfl) (fun _ => rfl) o_int (OpensF.cons (s := 1) rfl rfl (by kernel_rfl) (fun _ => rfl) o_Chs (OpensF.cons (s := 1) rfl rfl (by kernel_rfl) (fun _ => rfl) o_Wts (OpensF.cons (s := 1) rfl rfl (by kernel_rfl) (fun _ => rfl) o_Rs OpensF.nil))))) (fun (p : Int × List DChan × List DWait × List Rst × Unit) => ⟨p.1, p.2.1, p.2.2.1, p.2.2.2.1⟩) (fun p => ?_) (fun p h => ?_) (fun p => ?_)
  · simp [tHl, List.append_nil, tCh, tI, tL, tR, tWt]
  · obtain ⟨h0, h1, h2, h3, _⟩ := h; exact ⟨h0, h1, h2, h3⟩
  · exact Nat.le_of_eq (by simp only [bHl, Nat.add_assoc, Nat.add_zero])
structure DConf where
  kind : Int
  threads : Int
  chans : Int
  cap : Int
  nodes : Int
  retire : Int
  patience : Int
  tags : Int
  seqs : Int
  gens : Int
  start : List Int
  deriving DecidableEq, Inhabited
def tCf (x : DConf) : List Tr := tI x.kind ++ tI x.threads ++ tI x.chans ++ tI x.cap ++ tI x.nodes ++ tI x.retire ++ tI x.patience ++ tI x.tags ++ tI x.seqs ++ tI x.gens ++ tL tI x.start
def sCf (x : DConf) : Prop := sI x.kind ∧ sI x.threads ∧ sI x.chans ∧ sI x.cap ∧ sI x.nodes ∧ sI x.retire ∧ sI x.patience ∧ sI x.tags ∧ sI x.seqs ∧ sI x.gens ∧ (sL sI 8) x.start
def bCf (x : DConf) : Nat := b1 x.kind + b1 x.threads + b1 x.chans + b1 x.cap + b1 x.nodes + b1 x.retire + b1 x.patience + b1 x.tags + b1 x.seqs + b1 x.gens + (bL b1) x.start
theorem o_Cf {H : Type} {enc : TypeId × Value → H} {W : World} : Opens enc Try.prog W 24 tCf sCf bCf := by
  refine Opens.map (Opens.struct (n := 11) Try.underlying24 (by kernel_rfl) (fun _ => rfl) (OpensF.cons (s := 1) rfl rfl (by kernel_rfl) (fun _ => rfl) o_int (OpensF.cons (s := 1) rfl rfl (by kernel_rfl) (fun _ => rfl) o_int (OpensF.cons (s := 1) rfl rfl (by kernel_rfl) (fun _ => rfl) o_int (OpensF.cons (s := 1) rfl rfl (by kernel_rfl) (fun _ => rfl) o_int (OpensF.cons (s := 1) rfl rfl (by kernel_rfl) (fun _ => rfl) o_int (OpensF.cons (s := 1) rfl rfl (by kernel_rfl) (fun _ => rfl) o_int (OpensF.cons (s := 1) rfl rfl (by kernel_rfl) (fun _ => rfl) o_int (OpensF.cons (s := 1) rfl rfl (by kernel_rfl) (fun _ => rfl) o_int (OpensF.cons (s := 1) rfl rfl (by kernel_rfl) (fun _ => rfl) o_int (OpensF.cons (s := 1) rfl rfl (by kernel_rfl) (fun _ => rfl) o_int (OpensF.cons (s := 1) rfl rfl (by kernel_rfl) (fun _ => rfl) o_ints OpensF.nil)))))))))))) (fun (p : Int × Int × Int × Int × Int × Int × Int × Int × Int × Int × List Int × Unit) => ⟨p.1, p.2.1, p.2.2.1, p.2.2.2.1, p.2.2.2.2.1, p.2.2.2.2.2.1, p.2.2.2.2.2.2.1, p.2.2.2.2.2.2.2.1, p.2.2.2.2.2.2.2.2.1, p.2.2.2.2.2.2.2.2.2.1, p.2.2.2.2.2.2.2.2.2.2.1⟩) (fun p => ?_) (fun p h => ?_) (fun p => ?_)
  · simp [tCf, List.append_nil, tI, tL]
  · obtain ⟨h0, h1, h2, h3, h4, h5, h6, h7, h8, h9, h10, _⟩ := h; exact ⟨h0, h1, h2, h3, h4, h5, h6, h7, h8, h9, h10⟩
  · exact Nat.le_of_eq (by simp only [bCf, Nat.add_assoc, Nat.add_zero])


end Go.Proofs.Ytphcebioiipdpaa


namespace Go.Proofs.Ytphcebioiipdpaa
set_option linter.unusedVariables false
set_option linter.unusedSimpArgs false
set_option linter.unnecessarySimpa false
open Go.RowKit
def ixF {α : Type} (p : α → Bool) : List α → Int
  | [] => -1
  | a :: l => if p a then 0 else if ixF p l < 0 then -1 else ixF p l + 1
theorem ixF_b {α : Type} (p : α → Bool) : ∀ l : List α, -1 ≤ ixF p l ∧ ixF p l < l.length
  | [] => by simp [ixF]
  | a :: l => by have := ixF_b p l; unfold ixF; simp only [List.length_cons]; repeat' split
                 all_goals omega
theorem ixF_at {α : Type} (p : α → Bool) : ∀ (l : List α) (j : Nat) (a : α), (∀ q, q < j → ∀ b, l[q]? = some b → p b = false) → l[j]? = some a → p a = true → ixF p l = j
  | [], j, a, _, h, _ => by simp at h
  | b :: l, 0, a, _, h, hp => by simp at h; subst h; simp [ixF, hp]
  | b :: l, j + 1, a, h0, h, hp => by
    have h1 := ixF_at p l j a (fun q hq c hc => h0 (q + 1) (by omega) c (by simpa using hc)) (by simpa using h) hp
    have h2 := h0 0 (by omega) b rfl
    unfold ixF
    rw [h2, h1]; simp; omega
theorem ixF_none {α : Type} (p : α → Bool) : ∀ l : List α, (∀ q : Nat, ∀ b, l[q]? = some b → p b = false) → ixF p l = -1
  | [], _ => rfl
  | b :: l, h0 => by
    have h1 := ixF_none p l (fun q c hc => h0 (q + 1) c (by simpa using hc))
    have h2 := h0 0 b rfl
    unfold ixF
    rw [h2, h1]; simp
theorem ixF_get {α : Type} (p : α → Bool) : ∀ l : List α, 0 ≤ ixF p l → ∃ a, l[(ixF p l).toNat]? = some a ∧ p a = true
  | [], h => by simp [ixF] at h
  | b :: l, h => by
    unfold ixF at h ⊢
    cases hp : p b
    · simp only [hp, Bool.false_eq_true, if_false] at h ⊢
      by_cases h2 : ixF p l < 0
      · rw [if_pos h2] at h; omega
      · rw [if_neg h2] at h ⊢
        obtain ⟨a, ha, hq⟩ := ixF_get p l (by omega)
        refine ⟨a, ?_, hq⟩
        rw [show (ixF p l + 1).toNat = (ixF p l).toNat + 1 by omega]; simpa using ha
    · exact ⟨b, by simp, hp⟩
def putOk (l : List DWait) (t : Int) : Bool := decide (0 ≤ t ∧ t < l.length ∧ (l.getD t.toNat default).on = false)
def putW (l : List DWait) (t : Int) (w : DWait) : List DWait := if putOk l t then l.set t.toNat ⟨true, w.ticket, w.seq, w.cases⟩ else l
def cutOk (l : List DWait) (t : Int) : Bool := decide (0 ≤ t ∧ t < l.length ∧ (l.getD t.toNat default).on = true)
def w0 : DWait := ⟨false, 0, 0, []⟩
def cutW (l : List DWait) (t : Int) : List DWait := if cutOk l t then l.set t.toNat w0 else l
theorem putW_len (l : List DWait) (t : Int) (w : DWait) : (putW l t w).length = l.length := by unfold putW; split <;> simp
theorem cutW_len (l : List DWait) (t : Int) : (cutW l t).length = l.length := by unfold cutW; split <;> simp
structure FS where
  th : Int
  wh : Int
  ok : Bool
def isC (d h : Int) (c : DCase) : Bool := decide (c.dir = d ∧ c.handle = h)
def firK (l : List DWait) (d h : Int) : Nat → FS
  | 0 => ⟨0, 0, false⟩
  | k + 1 => if (l.getD k default).on = true ∧ 0 ≤ ixF (isC d h) (l.getD k default).cases ∧ ((firK l d h k).ok = false ∨ (l.getD k default).ticket < (l.getD (firK l d h k).th.toNat default).ticket) then ⟨k, ixF (isC d h) (l.getD k default).cases, true⟩ else firK l d h k
theorem firK_ok (l : List DWait) (d h : Int) (k : Nat) : ((firK l d h k).ok = false ∧ (firK l d h k).th = 0 ∧ (firK l d h k).wh = 0) ∨ ((firK l d h k).ok = true ∧ ∃ t : Nat, (firK l d h k).th = t ∧ t < k ∧ (l.getD t default).on = true ∧ (firK l d h k).wh = ixF (isC d h) (l.getD t default).cases ∧ 0 ≤ (firK l d h k).wh) := by
  induction k with
  | zero => exact .inl ⟨rfl, rfl, rfl⟩
  | succ k ih =>
    unfold firK
    split
    · rename_i hc; exact .inr ⟨rfl, k, rfl, by omega, hc.1, rfl, hc.2.1⟩
    · rcases ih with ih | ⟨h0, t, h1, h2, h3, h4, h5⟩
      · exact .inl ih
      · exact .inr ⟨h0, t, h1, by omega, h3, h4, h5⟩
end Go.Proofs.Ytphcebioiipdpaa


namespace Go.Proofs.Ytphcebioiipdpaa
set_option linter.unusedVariables false
set_option linter.unusedSimpArgs false
set_option linter.unnecessarySimpa false
open Go.RowKit
set_option maxRecDepth 100000
def okW (l : List DWait) : Prop := l.length ≤ 2932031007402 ∧ ∀ w ∈ l, w.cases.length ≤ 5864062014805
theorem okW.at {l : List DWait} (h : okW l) {q : Nat} {a : DWait} (ha : l[q]? = some a) : a.cases.length ≤ 5864062014805 := h.2 a (List.mem_of_getElem? ha)
theorem getD_of {α : Type} {l : List α} {n : Nat} {a d : α} (h : l[n]? = some a) : l.getD n d = a := by rw [List.getD_eq_getElem?_getD, h]; rfl
end Go.Proofs.Ytphcebioiipdpaa


namespace Go.Proofs.Ytphcebioiipdpaa
set_option linter.unusedVariables false
set_option linter.unusedSimpArgs false
set_option linter.unnecessarySimpa false
open Go.RowKit
set_option maxRecDepth 100000
set_option maxHeartbeats 4000000
theorem clone_Cs (l : List DCase) (h : l.length ≤ 5864062014805) : Cd Try.prog 80 [.ln (l.map tCs)] (.sl 0 0 l.length) [.row 0 45 3 (l.map tCs)] := by
  refine Cd.enter' Try.func80 rfl Try.ntmps80 rfl ?_
  repeat' (first | ((with_reducible refine kAL ?_); (first | (refine kL 1 rfl ?_; (first | refine A_move rfl rfl _ (.inr rfl) (y := .sl _ _ _) rfl ?_ | refine A_move rfl rfl _ (.inr rfl) (y := .nl) rfl ?_)) | refine A_move rfl rfl _ (.inl rfl) (y := .ln _) rfl ?_ | (refine kL 969 rfl ?_; (refine A_eqnil rfl rfl 30 _ _ rfl ud30 rfl (fun b hb => ?_))) | (refine kL 975 rfl ?_; refine A_lit0 rfl rfl 30 rfl ud30 inf45 ?_) | (refine kL 12 rfl ?_; (refine A_append_nl rfl rfl _ _ 30 rfl ud30 inf45 rfl rfl (by exact .ln (by exact each_map (fun _ => rfl))) qB qB (by ((try simp only [List.take_zero, List.take_succ_cons, List.drop_zero, List.drop_succ_cons, List.nil_append, List.cons_append, List.append_nil, List.length_cons, List.length_nil, List.set_cons_zero, List.set_cons_succ, List.map_cons, List.map_nil, List.take_nil, List.drop_nil, Nat.zero_add, Nat.add_zero, Nat.reduceAdd, Nat.reduceSub]); rfl)) (.push qL qN) qS ?_)) | refine AL.nil ?_)) | with_reducible refine AW.at_region _ ?_ | (with_reducible (first | refine wk0 ?_ | refine wk2 ?_ | refine wk3 ?_ | refine wk9 ?_ | refine wkb ?_ | refine wkd ?_)) | refine kcc rfl (fun hc => ?_) (fun hc => ?_))
  · have hl : l = [] := by simpa using hb hc
    subst hl
    refine Fin.wk (Wk.own 2 rfl 45 3 (.push rfl rfl)) ?_
    exact Fin.q Try.results80 (.cons (.tmp rfl) .nil) [0]
  · exact Fin.q Try.results80 (.cons (.tmp rfl) .nil) [0]
theorem clone_Wt (l : List DWait) (h : l.length ≤ 2932031007402) : Cd Try.prog 79 [.ln (l.map tWt)] (.sl 0 0 l.length) [.row 0 43 4 (l.map tWt)] := by
  refine Cd.enter' Try.func79 rfl Try.ntmps79 rfl ?_
  repeat' (first | ((with_reducible refine kAL ?_); (first | (refine kL 1 rfl ?_; (first | refine A_move rfl rfl _ (.inr rfl) (y := .sl _ _ _) rfl ?_ | refine A_move rfl rfl _ (.inr rfl) (y := .nl) rfl ?_)) | refine A_move rfl rfl _ (.inl rfl) (y := .ln _) rfl ?_ | (refine kL 841 rfl ?_; (refine A_eqnil rfl rfl 26 _ _ rfl ud26 rfl (fun b hb => ?_))) | (refine kL 847 rfl ?_; refine A_lit0 rfl rfl 26 rfl ud26 inf43 ?_) | (refine kL 12 rfl ?_; (refine A_append_nl rfl rfl _ _ 26 rfl ud26 inf43 rfl rfl (by exact .ln (by exact each_map (fun _ => rfl))) qB qB (by ((try simp only [List.take_zero, List.take_succ_cons, List.drop_zero, List.drop_succ_cons, List.nil_append, List.cons_append, List.append_nil, List.length_cons, List.length_nil, List.set_cons_zero, List.set_cons_succ, List.map_cons, List.map_nil, List.take_nil, List.drop_nil, Nat.zero_add, Nat.add_zero, Nat.reduceAdd, Nat.reduceSub]); rfl)) (.push qL qN) qS ?_)) | refine AL.nil ?_)) | with_reducible refine AW.at_region _ ?_ | (with_reducible (first | refine wk0 ?_ | refine wk2 ?_ | refine wk3 ?_ | refine wk9 ?_ | refine wkb ?_ | refine wkd ?_)) | refine kcc rfl (fun hc => ?_) (fun hc => ?_))
  · have hl : l = [] := by simpa using hb hc
    subst hl
    refine Fin.wk (Wk.own 2 rfl 43 4 (.push rfl rfl)) ?_
    exact Fin.q Try.results79 (.cons (.tmp rfl) .nil) [0]
  · exact Fin.q Try.results79 (.cons (.tmp rfl) .nil) [0]
theorem clone_Ch (l : List DChan) (h : l.length ≤ 2932031007402) : Cd Try.prog 49 [.ln (l.map tCh)] (.sl 0 0 l.length) [.row 0 66 5 (l.map tCh)] := by
  refine Cd.enter' Try.func49 rfl Try.ntmps49 rfl ?_
  repeat' (first | ((with_reducible refine kAL ?_); (first | (refine kL 1 rfl ?_; (first | refine A_move rfl rfl _ (.inr rfl) (y := .sl _ _ _) rfl ?_ | refine A_move rfl rfl _ (.inr rfl) (y := .nl) rfl ?_)) | refine A_move rfl rfl _ (.inl rfl) (y := .ln _) rfl ?_ | (refine kL 809 rfl ?_; (refine A_eqnil rfl rfl 25 _ _ rfl ud25 rfl (fun b hb => ?_))) | (refine kL 815 rfl ?_; refine A_lit0 rfl rfl 25 rfl ud25 inf66 ?_) | (refine kL 12 rfl ?_; (refine A_append_nl rfl rfl _ _ 25 rfl ud25 inf66 rfl rfl (by exact .ln (by exact each_map (fun _ => rfl))) qB qB (by ((try simp only [List.take_zero, List.take_succ_cons, List.drop_zero, List.drop_succ_cons, List.nil_append, List.cons_append, List.append_nil, List.length_cons, List.length_nil, List.set_cons_zero, List.set_cons_succ, List.map_cons, List.map_nil, List.take_nil, List.drop_nil, Nat.zero_add, Nat.add_zero, Nat.reduceAdd, Nat.reduceSub]); rfl)) (.push qL qN) qS ?_)) | refine AL.nil ?_)) | with_reducible refine AW.at_region _ ?_ | (with_reducible (first | refine wk0 ?_ | refine wk2 ?_ | refine wk3 ?_ | refine wk9 ?_ | refine wkb ?_ | refine wkd ?_)) | refine kcc rfl (fun hc => ?_) (fun hc => ?_))
  · have hl : l = [] := by simpa using hb hc
    subst hl
    refine Fin.wk (Wk.own 2 rfl 66 5 (.push rfl rfl)) ?_
    exact Fin.q Try.results49 (.cons (.tmp rfl) .nil) [0]
  · exact Fin.q Try.results49 (.cons (.tmp rfl) .nil) [0]
end Go.Proofs.Ytphcebioiipdpaa


namespace Go.Proofs.Ytphcebioiipdpaa
set_option linter.unusedVariables false
set_option linter.unusedSimpArgs false
set_option linter.unnecessarySimpa false
open Go.RowKit
set_option maxHeartbeats 32000000
attribute [local irreducible] AL AW RG Fin C Cd Cio thenQ blockQ retQ
set_option maxRecDepth 100000
theorem res_c (a b : Rst) : Cd Try.prog 75 [.agg ((tR a).map .t), .agg ((tR b).map .t)] (.t (.v (.bool (decide (a = b))))) [] := by
  obtain ⟨a1, a2, a3, a4⟩ := a
  obtain ⟨b1, b2, b3, b4⟩ := b
  simp only [tR, List.map_cons, List.map_nil]
  refine Cd.enter' Try.func75 rfl Try.ntmps75 rfl ?_
  repeat' (first | ((with_reducible refine kAL ?_); (first | refine A_box rfl rfl 50 _ rfl rfl (.push qL qN) ?_ | refine A_as rfl rfl rfl rfl ?_ | (refine kL 1604 rfl ?_; (first | refine A_field rfl rfl 50 _ 0 rfl ud50 rfl inf3 (by decide) 0 rfl rfl ?_ | refine A_field rfl rfl 50 _ 1 rfl ud50 rfl inf3 (by decide) 1 rfl rfl ?_ | refine A_field rfl rfl 50 _ 2 rfl ud50 rfl inf48 (by decide) 2 rfl rfl ?_ | refine A_field rfl rfl 50 _ 3 rfl ud50 rfl inf3 (by decide) 3 rfl rfl ?_)) | refine A_load rfl rfl 3 _ rfl ud3 rfl rfl rfl rfl ?_ | (refine kL 105 rfl ?_; (first | refine A_cmp (d := 9) rfl rfl .eql 3 3 _ _ rfl rfl rfl rfl ?_ | refine A_cmp (d := 15) rfl rfl .eql 3 3 _ _ rfl rfl rfl rfl ?_ | refine A_cmp (d := 22) rfl rfl .eql 3 3 _ _ rfl rfl rfl rfl ?_ | refine A_cmp (d := 29) rfl rfl .eql 3 3 _ _ rfl rfl rfl rfl ?_)) | refine A_mt rfl rfl rfl rfl ?_ | refine A_pick rfl rfl _ _ _ rfl rfl rfl rfl rfl ?_ | refine A_load rfl rfl 48 _ rfl ud48 rfl rfl rfl rfl ?_ | refine AL.nil ?_ | refine AL.skip rfl rfl ?_ | (refine AL.split 10 rfl (fun hb => ?_) (fun hb => ?_) <;> (try simp only [decide_eq_true_eq, decide_eq_false_iff_not, Bool.not_eq_true', Bool.not_eq_false'] at hb) <;> (first | refine AL.skip rfl rfl ?_ | refine AL.need rfl ?_)) | (refine AL.split 17 rfl (fun hb => ?_) (fun hb => ?_) <;> (try simp only [decide_eq_true_eq, decide_eq_false_iff_not, Bool.not_eq_true', Bool.not_eq_false'] at hb) <;> (first | refine AL.skip rfl rfl ?_ | refine AL.need rfl ?_)) | (refine AL.split 24 rfl (fun hb => ?_) (fun hb => ?_) <;> (try simp only [decide_eq_true_eq, decide_eq_false_iff_not, Bool.not_eq_true', Bool.not_eq_false'] at hb) <;> (first | refine AL.skip rfl rfl ?_ | refine AL.need rfl ?_)))) | with_reducible refine AW.at_region _ ?_ | (with_reducible (first | refine wk0 ?_ | refine wk2 ?_ | refine wk9 ?_ | refine wkb ?_)))
  all_goals refine Fin.q Try.results75 (.cons (.tmp rfl) .nil) [] (hr := (.t ?_))
  all_goals simp [*]
theorem ints_c (a b : List Int) (ha : a.length ≤ 1152921504606846976) : Cd Try.prog 21 [.ln (a.map tI), .ln (b.map tI)] (.t (.v (.bool (decide (a = b))))) [] := by
  have h1 : (a.map tI).length = a.length := List.length_map _
  have h2 : (b.map tI).length = b.length := List.length_map _
  refine Cd.enter' Try.func21 rfl Try.ntmps21 rfl ?_
  repeat' (first | ((with_reducible refine kAL ?_); (first | refine A_as rfl rfl rfl rfl ?_ | (refine kL 0 rfl ?_; (first | refine A_mt rfl rfl rfl rfl ?_ | refine A_move rfl rfl _ (.inl rfl) (y := .ln _) rfl ?_)) | refine A_len rfl rfl 22 _ rfl ud22 rfl ?_ | refine A_cmp (d := 10) rfl rfl .neq 3 3 _ _ rfl rfl rfl rfl ?_ | refine AL.nil ?_)) | (with_reducible (first | refine wk0 ?_ | refine wk1 ?_ | refine wk2 ?_ | refine wk3 ?_ | refine wk9 ?_ | refine wkb ?_ | refine wkd ?_)) | refine kcp rfl (fun hc => ?_) (fun hc => ?_) | with_reducible refine AW.at_region _ ?_)
  · refine Fin.q Try.results21 (.cons (.tmp rfl) .nil) [] (hr := (.t ?_))
    have : a ≠ b := by rintro rfl; exact hc rfl
    simp [this]
  · refine AW.loopP (fun (i : Nat) => ∀ j, j < i → a.getD j 0 = b.getD j 0) (fun (i : Nat) => (pu (pu (pu (pu (pu (fun _ => .any) 0 (.ln (a.map tI))) 1 (.ln (b.map tI))) 4 (.t (.v (.bool false)))) 12 (i64 (a.map tI).length)) 13 (i64 i))) (fun (i : Nat) => []) (fun (i : Nat) => a.length + 1 - i) (0) ?_ ?_ ?_
    · intro j hj; omega
    · exact Wk.cq 0
    · intro i hi
      repeat' (first | ((with_reducible refine kAL ?_); (first | refine A_as rfl rfl rfl rfl ?_ | refine A_mt rfl rfl rfl rfl ?_ | (refine kL 105 rfl ?_; (first | refine A_add rfl rfl 3 3 _ _ rfl rfl rfl (by first | exact wi | rfl) ?_ | refine A_cmp (d := 14) rfl rfl .lss 3 3 _ _ rfl rfl rfl rfl ?_)) | refine AL.nil ?_)) | ((with_reducible refine kRG ?_); (first | (refine kR 0 rfl ?_; (first | refine R_mt rfl rfl rfl rfl ?_ | refine R_move rfl rfl _ (.inl rfl) (y := .ln _) rfl ?_)) | (refine kR 710 rfl ?_; refine R_idx rfl rfl 22 _ _ rfl ud22 inf3 (by decide) (by exact .inl rfl) rfl (by omega) _ (by with_reducible exact Int.toNat_natCast _) (by exact map_get (get_D (x := 0) (by omega))) rfl (cs' := [_]) rfl ?_) | refine R_load_lp rfl rfl 3 _ rfl ud3 rfl rfl rfl ?_ | refine R_cmp (d := 24) rfl rfl .neq 3 3 _ _ rfl rfl rfl rfl ?_ | refine RG.nil ⟨by kernel_rfl, ?_⟩)) | (with_reducible (first | refine wk0 ?_ | refine wk1 ?_ | refine wk2 ?_ | refine wk3 ?_ | refine wk4 ?_ | refine wk5 ?_ | refine wk6 ?_ | refine wk7 ?_ | refine wk9 ?_ | refine wkb ?_ | refine wkc ?_ | refine wkd ?_)) | refine kcp rfl (fun hc => ?_) (fun hc => ?_) | with_reducible refine AW.at_region _ ?_ | refine AW.at_draw 6 mixed 0 [[], [], [0, 1], [0, 1, 2], [], [], [4, 5], [4, 5, 6], [0, 1, 2, 3, 4, 5, 6, 7]] qR ?_)
      · refine Fin.q Try.results21 (.cons (.tmp rfl) .nil) [] (hr := (.t ?_))
        have : a ≠ b := by rintro rfl; exact hc rfl
        simp [this]
      · refine ⟨i + 1, fun j hj => ?_, by omega, ?_⟩
        · by_cases e : j = i
          · subst e; exact Decidable.not_not.1 hc
          · exact hi j (by omega)
        · exact Wk.cq 0
      · refine Fin.q Try.results21 (.cons (.tmp rfl) .nil) [] (hr := (.t ?_))
        have : a = b := all_eq (z := 0) (by omega) fun j hj => hi j (by omega)
        simp [this]
theorem results_c (a b : List Rst) (ha : a.length ≤ 1152921504606846976) : Cd Try.prog 40 [.ln (a.map tR), .ln (b.map tR)] (.t (.v (.bool (decide (a = b))))) [] := by
  have h1 : (a.map tR).length = a.length := List.length_map _
  have h2 : (b.map tR).length = b.length := List.length_map _
  refine Cd.enter' Try.func40 rfl Try.ntmps40 rfl ?_
  repeat' (first | ((with_reducible refine kAL ?_); (first | refine A_as rfl rfl rfl rfl ?_ | (refine kL 0 rfl ?_; (first | refine A_mt rfl rfl rfl rfl ?_ | refine A_move rfl rfl _ (.inl rfl) (y := .ln _) rfl ?_)) | refine A_len rfl rfl 27 _ rfl ud27 rfl ?_ | refine A_cmp (d := 10) rfl rfl .neq 3 3 _ _ rfl rfl rfl rfl ?_ | refine AL.nil ?_)) | (with_reducible (first | refine wk0 ?_ | refine wk1 ?_ | refine wk2 ?_ | refine wk3 ?_ | refine wk9 ?_ | refine wkb ?_ | refine wkd ?_)) | refine kcp rfl (fun hc => ?_) (fun hc => ?_) | with_reducible refine AW.at_region _ ?_)
  · refine Fin.q Try.results40 (.cons (.tmp rfl) .nil) [] (hr := (.t ?_))
    have : a ≠ b := by rintro rfl; exact hc rfl
    simp [this]
  · refine AW.loopP (fun (i : Nat) => ∀ j, j < i → a.getD j ⟨0, 0, 0, 0⟩ = b.getD j ⟨0, 0, 0, 0⟩) (fun (i : Nat) => (pu (pu (pu (pu (pu (fun _ => .any) 0 (.ln (a.map tR))) 1 (.ln (b.map tR))) 4 (.t (.v (.bool false)))) 12 (i64 (a.map tR).length)) 13 (i64 i))) (fun (i : Nat) => []) (fun (i : Nat) => a.length + 1 - i) (0) ?_ ?_ ?_
    · intro j hj; omega
    · exact Wk.cq 0
    · intro i hi
      repeat' (first | ((with_reducible refine kAL ?_); (first | refine A_as rfl rfl rfl rfl ?_ | refine A_mt rfl rfl rfl rfl ?_ | (refine kL 105 rfl ?_; (first | refine A_add rfl rfl 3 3 _ _ rfl rfl rfl (by first | exact wi | rfl) ?_ | refine A_cmp (d := 14) rfl rfl .lss 3 3 _ _ rfl rfl rfl rfl ?_)) | refine AL.nil ?_)) | ((with_reducible refine kRG ?_); (first | (refine kR 0 rfl ?_; (first | refine R_mt rfl rfl rfl rfl ?_ | refine R_move rfl rfl _ (.inl rfl) (y := .ln _) rfl ?_)) | (refine kR 870 rfl ?_; refine R_idx rfl rfl 27 _ _ rfl ud27 inf50 (by decide) (by exact .inl rfl) rfl (by omega) _ (by with_reducible exact Int.toNat_natCast _) (by exact map_get (get_D (x := ⟨0, 0, 0, 0⟩) (by omega))) rfl (cs' := [_, _, _, _]) rfl ?_) | refine R_load_lp_agg rfl rfl 50 _ rfl ud50 rfl inf50 rfl (us' := [_, _, _, _]) rfl rfl ?_ | (refine kR 2410 rfl ?_; (refine R_cl rfl rfl Try.func75 rfl (res_c (a.getD i ⟨0, 0, 0, 0⟩) (b.getD i ⟨0, 0, 0, 0⟩)) ?_; refine ⟨0, _, _, _, rfl, qU, qU, qZ, ?_⟩)) | refine R_not rfl rfl _ _ rfl rfl ?_ | refine RG.nil ⟨by kernel_rfl, ?_⟩)) | (with_reducible (first | refine wk0 ?_ | refine wk1 ?_ | refine wk2 ?_ | refine wk3 ?_ | refine wk4 ?_ | refine wk5 ?_ | refine wk6 ?_ | refine wk7 ?_ | refine wk9 ?_ | refine wkb ?_ | refine wkc ?_ | refine wkd ?_)) | refine kcp rfl (fun hc => ?_) (fun hc => ?_) | refine kcn rfl (fun hc => ?_) (fun hc => ?_) | with_reducible refine AW.at_region _ ?_ | refine AW.at_draw 6 mixed 0 [[], [], [0, 1], [0, 1, 2], [], [], [4, 5], [4, 5, 6], [0, 1, 2, 3, 4, 5, 6, 7], [0, 1, 2, 3, 4, 5, 6, 7, 8]] qR ?_)
      · refine Fin.q Try.results40 (.cons (.tmp rfl) .nil) [] (hr := (.t ?_))
        have : a ≠ b := by rintro rfl; simp at hc
        simp [this]
      · refine ⟨i + 1, fun j hj => ?_, by omega, ?_⟩
        · by_cases e : j = i
          · subst e; simpa using hc
          · exact hi j (by omega)
        · exact Wk.cq 0
      · refine Fin.q Try.results40 (.cons (.tmp rfl) .nil) [] (hr := (.t ?_))
        have : a = b := all_eq (z := ⟨0, 0, 0, 0⟩) (by omega) fun j hj => hi j (by omega)
        simp [this]
end Go.Proofs.Ytphcebioiipdpaa


namespace Go.Proofs.Ytphcebioiipdpaa
set_option linter.unusedVariables false
set_option linter.unusedSimpArgs false
set_option linter.unnecessarySimpa false
open Go.RowKit
set_option maxHeartbeats 32000000
attribute [local irreducible] AL AW RG Fin C Cd Cio thenQ blockQ retQ
set_option maxRecDepth 100000
theorem DCase_ext {a b : DCase} (h : a.dir = b.dir ∧ a.handle = b.handle ∧ a.value = b.value) : a = b := by
  obtain ⟨a1, a2, a3⟩ := a; obtain ⟨b1, b2, b3⟩ := b; simp only at h; rw [h.1, h.2.1, h.2.2]
set_option maxHeartbeats 4000000 in
theorem cases_c (a b : List DCase) (ha : a.length ≤ 1152921504606846976) : Cd Try.prog 74 [.ln (a.map tCs), .ln (b.map tCs)] (bo (decide (a = b))) [] := by
  have h1 : (a.map tCs).length = a.length := List.length_map _
  have h2 : (b.map tCs).length = b.length := List.length_map _
  refine Cd.enter' Try.func74 rfl Try.ntmps74 rfl ?_
  repeat' (first | ((with_reducible refine kAL ?_); (first | refine A_as rfl rfl rfl rfl ?_ | (refine kL 0 rfl ?_; (first | refine A_mt rfl rfl rfl rfl ?_ | refine A_move rfl rfl _ (.inl rfl) (y := .ln _) rfl ?_)) | refine A_len rfl rfl 30 _ rfl ud30 rfl ?_ | refine A_cmp (d := 10) rfl rfl .neq 3 3 _ _ rfl rfl rfl rfl ?_ | refine AL.nil ?_)) | (with_reducible (first | refine wk0 ?_ | refine wk1 ?_ | refine wk2 ?_ | refine wk3 ?_ | refine wk9 ?_ | refine wkb ?_ | refine wkd ?_)) | refine kcp rfl (fun hc => ?_) (fun hc => ?_) | with_reducible refine AW.at_region _ ?_)
  · refine Fin.q Try.results74 (.cons (.tmp rfl) .nil) [] (hr := (.t ?_))
    have : a ≠ b := by rintro rfl; exact hc rfl
    simp [this]
  · refine AW.loopP (fun (i : Nat) => ∀ j, j < i → a.getD j default = b.getD j default) (fun (i : Nat) => (pu (pu (pu (pu (pu (fun _ => .any) 0 (.ln (a.map tCs))) 1 (.ln (b.map tCs))) 4 (bo false)) 12 (i64 (a.map tCs).length)) 13 (i64 i))) (fun (i : Nat) => []) (fun (i : Nat) => a.length + 1 - i) (0) ?_ ?_ ?_
    · intro j hj; omega
    · exact Wk.cq 0
    · intro i hi
      repeat' (first | ((with_reducible refine kAL ?_); (first | refine A_as rfl rfl rfl rfl ?_ | refine A_mt rfl rfl rfl rfl ?_ | (refine kL 105 rfl ?_; (first | refine A_add rfl rfl 3 3 _ _ rfl rfl rfl (by first | exact wi | rfl) ?_ | refine A_cmp (d := 14) rfl rfl .lss 3 3 _ _ rfl rfl rfl rfl ?_)) | refine AL.nil ?_)) | ((with_reducible refine kRG ?_); (first | (refine kR 0 rfl ?_; (first | refine R_mt rfl rfl rfl rfl ?_ | refine R_move rfl rfl _ (.inl rfl) (y := .ln _) rfl ?_)) | (refine kR 966 rfl ?_; refine R_idx rfl rfl 30 _ _ rfl ud30 inf45 (by decide) (by exact .inl rfl) rfl (by omega) _ (by with_reducible exact Int.toNat_natCast _) (by exact map_get (get_D (x := (default : DCase)) (by omega))) rfl (cs' := [_, _, _]) rfl ?_) | refine R_load_lp_agg rfl rfl 45 _ rfl ud45 rfl inf45 rfl (us' := [_, _, _]) rfl rfl ?_ | (refine kR 1449 rfl ?_; (refine R_nes rfl rfl 45 45 _ _ rfl rfl rfl (by kernel_rfl) (fun w => eqs45 9998 _ _ _ _ _ _ w) (by rfl) ?_)) | refine RG.nil ⟨by kernel_rfl, ?_⟩)) | (with_reducible (first | refine wk0 ?_ | refine wk1 ?_ | refine wk2 ?_ | refine wk3 ?_ | refine wk4 ?_ | refine wk5 ?_ | refine wk6 ?_ | refine wk7 ?_ | refine wk9 ?_ | refine wkb ?_ | refine wkc ?_ | refine wkd ?_)) | refine kcp rfl (fun hc => ?_) (fun hc => ?_) | refine kcn rfl (fun hc => ?_) (fun hc => ?_) | with_reducible refine AW.at_region _ ?_ | refine AW.at_draw 6 mixed 0 [[], [], [0, 1], [0, 1, 2], [], [], [4, 5], [4, 5, 6], [0, 1, 2, 3, 4, 5, 6, 7]] qR ?_)
      · refine Fin.q Try.results74 (.cons (.tmp rfl) .nil) [] (hr := (.t ?_))
        have : a ≠ b := by
          rintro rfl; exact absurd hc (by simp)
        simp [this]
      · refine ⟨i + 1, fun j hj => ?_, by omega, ?_⟩
        · by_cases e : j = i
          · subst e; exact DCase_ext (by simpa using hc)
          · exact hi j (by omega)
        · exact Wk.cq 0
      · refine Fin.q Try.results74 (.cons (.tmp rfl) .nil) [] (hr := (.t ?_))
        have : a = b := all_eq (z := default) (by omega) fun j hj => hi j (by omega)
        simp [this]
end Go.Proofs.Ytphcebioiipdpaa


namespace Go.Proofs.Ytphcebioiipdpaa
set_option linter.unusedVariables false
set_option linter.unusedSimpArgs false
set_option linter.unnecessarySimpa false
open Go.RowKit
set_option maxHeartbeats 32000000
attribute [local irreducible] AL AW RG Fin C Cd Cio thenQ blockQ retQ
set_option maxRecDepth 100000
theorem set_same {l : List DWait} {q : Nat} {a : DWait} (h : l[q]? = some a) : l.set q ⟨a.on, a.ticket, a.seq, a.cases⟩ = l := by
  obtain ⟨hq, e⟩ := List.getElem?_eq_some_iff.1 h
  rw [← e]; exact List.set_getElem_self hq
theorem putOk_yes {l : List DWait} {n : Nat} {a : DWait} (h : l[n]? = some a) (ho : a.on = false) : putOk l n = true := by
  have := get_lt h
  unfold putOk; rw [Int.toNat_natCast, getD_of h]; exact decide_eq_true ⟨by omega, by omega, ho⟩
theorem putOk_on {l : List DWait} {n : Nat} {a : DWait} (h : l[n]? = some a) (ho : a.on = true) : putOk l n = false := by
  unfold putOk; rw [Int.toNat_natCast, getD_of h]; exact decide_eq_false fun k => by rw [ho] at k; simp at k
theorem putOk_out {l : List DWait} {t : Int} (h : ¬ (0 ≤ t ∧ t < l.length)) : putOk l t = false := by unfold putOk; exact decide_eq_false fun k => h ⟨k.1, k.2.1⟩
theorem cutOk_yes {l : List DWait} {n : Nat} {a : DWait} (h : l[n]? = some a) (ho : a.on = true) : cutOk l n = true := by
  have := get_lt h
  unfold cutOk; rw [Int.toNat_natCast, getD_of h]; exact decide_eq_true ⟨by omega, by omega, ho⟩
theorem cutOk_off {l : List DWait} {n : Nat} {a : DWait} (h : l[n]? = some a) (ho : a.on = false) : cutOk l n = false := by
  unfold cutOk; rw [Int.toNat_natCast, getD_of h]; exact decide_eq_false fun k => by rw [ho] at k; simp at k
theorem cutOk_out {l : List DWait} {t : Int} (h : ¬ (0 ≤ t ∧ t < l.length)) : cutOk l t = false := by unfold cutOk; exact decide_eq_false fun k => h ⟨k.1, k.2.1⟩
theorem putW_yes {l : List DWait} {n : Nat} {w : DWait} (h : putOk l n = true) : putW l n w = l.set n ⟨true, w.ticket, w.seq, w.cases⟩ := by unfold putW; rw [h, if_pos rfl, Int.toNat_natCast]
theorem putW_no {l : List DWait} {t : Int} {w : DWait} (h : putOk l t = false) : putW l t w = l := by unfold putW; rw [h]; rfl
theorem cutW_yes {l : List DWait} {n : Nat} (h : cutOk l n = true) : cutW l n = l.set n w0 := by unfold cutW; rw [h, if_pos rfl, Int.toNat_natCast]
theorem cutW_no {l : List DWait} {t : Int} (h : cutOk l t = false) : cutW l t = l := by unfold cutW; rw [h]; rfl
set_option maxHeartbeats 4000000 in
theorem wcopy_c (l : List DWait) (hl : okW l) : Cd Try.prog 50 [.ln (l.map tWt)] (.sl 0 0 l.length) [.row 0 43 4 (l.map tWt)] := by
  have h0 := hl.1
  have h1 : (l.map tWt).length = l.length := List.length_map _
  first | refine Cd.enter' Try.func50 rfl Try.ntmps50 rfl ?_ | refine Cio.enter' Try.func50 rfl Try.ntmps50 rfl qM ?_ | refine C.enter' Try.func50 rfl Try.ntmps50 rfl qM ?_
  repeat' (first | ((with_reducible refine kAL ?_); (first | (refine kL 1 rfl ?_; (first | refine A_move rfl rfl _ (.inr rfl) (y := .sl _ _ _) rfl ?_ | refine A_move rfl rfl _ (.inr rfl) (y := .nl) rfl ?_)) | (refine kL 0 rfl ?_; (first | refine A_mt rfl rfl rfl rfl ?_ | refine A_move rfl rfl _ (.inl rfl) (y := .sl _ _ _) rfl ?_ | refine A_move rfl rfl _ (.inl rfl) (y := .ln _) rfl ?_)) | (refine kL 2538 rfl ?_; refine A_cl rfl rfl Try.func79 rfl (clone_Wt l h0) ?_) | refine A_len rfl rfl 26 _ rfl ud26 rfl ?_ | refine AL.nil ?_)) | with_reducible refine AW.at_region _ ?_ | (with_reducible (first | refine wk0 ?_ | refine wk1 ?_ | refine wk2 ?_)))
  refine AW.loopP (fun (q : Nat) => q ≤ l.length) (fun (q : Nat) => (pu (pu (pu (fun _ => .any) 3 (.sl 0 0 l.length)) 8 (i64 l.length)) 9 (i64 q))) (fun (q : Nat) => [.row 0 43 4 (l.map tWt)]) (fun (q : Nat) => l.length - q) (0) ?_ ?_ ?_
  · exact Nat.zero_le _
  · exact Wk.cq 1
  · intro q h2
    by_cases hq : q < l.length
    · obtain ⟨a, ha⟩ : ∃ a, l[q]? = some a := ⟨_, List.getElem?_eq_getElem hq⟩
      repeat' (first | ((with_reducible refine kAL ?_); (first | (refine kL 2570 rfl ?_; (refine A_cl (d := 19) rfl rfl Try.func80 rfl (clone_Cs a.cases (hl.at ha)) ?_; (try refine AL.wk (Wk.freeze 1 rfl 19 rfl (by first | exact .all (by first | (simp <;> fail) | fail) | fail) qN) ?_))) | refine A_as rfl rfl rfl rfl ?_ | (refine kL 0 rfl ?_; (first | refine A_mt rfl rfl rfl rfl ?_ | refine A_move rfl rfl _ (.inl rfl) (y := .sl _ _ _) rfl ?_)) | (refine kL 105 rfl ?_; (first | refine A_cmp (d := 10) rfl rfl (c := true) .lss 3 3 _ _ rfl rfl rfl (by exact congrArg some (decide_eq_true (by (try (dsimp only; fail_if_success done)); omega))) ?_ | refine A_add rfl rfl 3 3 _ _ rfl rfl rfl (by exact wi) ?_)) | (refine kL 838 rfl ?_; refine A_idx_sl rfl rfl 26 _ _ rfl ud26 inf43 rfl rfl (by first | (simp <;> fail) | fail) rfl (by omega) _ (by with_reducible exact Int.toNat_natCast _) (by omega) ?_) | refine A_field rfl rfl 43 _ 3 rfl ud43 rfl inf30 (by decide) 3 rfl rfl ?_ | refine A_load_rp rfl rfl 30 _ rfl ud30 rfl rfl rfl (by exact map_get (by assumption)) rfl ?_ | (refine kL 963 rfl ?_; refine A_store_rp rfl rfl 30 _ _ rfl inf30 (by decide) rfl rfl (by exact map_get (by assumption)) rfl rfl rfl (Nat.le_of_ble_eq_true rfl) (by exact map_set (f := tWt) (x := ⟨_, _, _, _⟩)) qN ?_) | refine AL.nil ?_)) | with_reducible refine AW.at_region _ ?_ | (with_reducible (first | refine wk0 ?_ | refine wk1 ?_ | refine wk2 ?_ | refine wk5 ?_ | refine wkd ?_)) | refine kct rfl ?_)
      all_goals first | (exfalso; omega) | skip
      rw [set_same ha]
      refine ⟨q + 1, by omega, by omega, ?_⟩
      exact Wk.cq 1
    · repeat' (first | ((with_reducible refine kAL ?_); (first | refine A_move rfl rfl _ (.inr rfl) (y := .sl _ _ _) rfl ?_ | refine A_move rfl rfl _ (.inl rfl) (y := .sl _ _ _) rfl ?_ | refine A_cmp (d := 10) rfl rfl (c := false) .lss 3 3 _ _ rfl rfl rfl (by exact congrArg some (decide_eq_false (by (try (dsimp only; fail_if_success done)); omega))) ?_ | refine AL.nil ?_)) | with_reducible refine AW.at_region _ ?_ | (with_reducible (first | refine wk0 ?_ | refine wk2 ?_ | refine wk4 ?_ | refine wk7 ?_ | refine wk9 ?_ | refine wkb ?_ | refine wkc ?_)) | refine kcf rfl ?_)
      all_goals first | (exfalso; omega) | (exact Fin.q Try.results50 (.cons (.tmp rfl) .nil) [0])
set_option maxHeartbeats 4000000 in
theorem wcopyR_c (l : List DWait) (hl : okW l) : Cd Try.prog 29 [.ln (l.map tWt)] (.sl 0 0 l.length) [.row 0 43 4 (l.map tWt)] := by
  have h0 := hl.1
  have h1 : (l.map tWt).length = l.length := List.length_map _
  first | refine Cd.enter' Try.func29 rfl Try.ntmps29 rfl ?_ | refine Cio.enter' Try.func29 rfl Try.ntmps29 rfl qM ?_ | refine C.enter' Try.func29 rfl Try.ntmps29 rfl qM ?_
  repeat' (first | ((with_reducible refine kAL ?_); (first | refine A_move rfl rfl _ (.inr rfl) (y := .nl) rfl ?_ | (refine kL 0 rfl ?_; (first | refine A_mt rfl rfl rfl rfl ?_ | refine A_move rfl rfl _ (.inl rfl) (y := .ln _) rfl ?_)) | refine A_len rfl rfl 26 _ rfl ud26 rfl ?_ | refine AL.nil ?_)) | with_reducible refine AW.at_region _ ?_ | (with_reducible (first | refine wk0 ?_ | refine wk1 ?_ | refine wk2 ?_)))
  refine AW.wk (Wk.own 3 rfl 43 4 (.push rfl rfl)) ?_
  refine AW.loopP (fun (x : Nat × Nat × List DWait) => x.1 ≤ l.length ∧ x.2.2 = l.take x.1) (fun (x : Nat × Nat × List DWait) => (pu (pu (pu (pu (fun _ => .any) 6 (.ln (l.map tWt))) 7 (i64 (l.map tWt).length)) 8 (i64 x.1)) 3 (.sl 0 x.2.1 x.1))) (fun (x : Nat × Nat × List DWait) => [.row x.2.1 43 4 (x.2.2.map tWt)]) (fun (x : Nat × Nat × List DWait) => l.length - x.1) ((0, 0, [])) ?_ ?_ ?_
  · exact ⟨Nat.zero_le _, rfl⟩
  · exact Wk.cq 1
  · rintro ⟨q, k, O⟩ ⟨h2, h3⟩
    dsimp only at h2 h3 ⊢
    have h6 : O.length = q := by rw [h3, List.length_take]; omega
    have h4 : (O.map tWt).length = q := by rw [List.length_map, h6]
    by_cases hq : q < l.length
    · obtain ⟨a, ha⟩ : ∃ a, l[q]? = some a := ⟨_, List.getElem?_eq_getElem hq⟩
      have hca := hl.at ha
      have h5 : (a.cases.map tCs).length = a.cases.length := List.length_map _
      repeat' (first | ((with_reducible refine kAL ?_); (first | (refine kL 12 rfl ?_; (first | ((refine A_append_nl (d := 15) rfl rfl _ _ 30 rfl ud30 inf45 rfl rfl (by exact .lst (by exact each_map (fun _ => rfl))) qB qB (by ((try simp only [List.take_zero, List.take_succ_cons, List.drop_zero, List.drop_succ_cons, List.nil_append, List.cons_append, List.append_nil, List.length_cons, List.length_nil, List.set_cons_zero, List.set_cons_succ, List.map_cons, List.map_nil, List.take_nil, List.drop_nil, Nat.zero_add, Nat.add_zero, Nat.reduceAdd, Nat.reduceSub]); rfl)) (.push qL qN) qS ?_); (try refine AL.wk (Wk.freeze 2 rfl 15 rfl (by first | exact .all (by first | (simp <;> fail) | fail) | fail) qN) ?_)) | refine A_append rfl rfl _ _ 26 rfl ud26 inf43 rfl rfl rfl (by (simp; omega)) (by exact .all rfl (by rfl)) qB qB (by exact app_one (f := tWt) (x := a) (by omega)) qN qS ?_)) | refine A_move rfl rfl _ (.inr rfl) (y := .sl _ _ _) rfl ?_ | (refine kL 0 rfl ?_; (first | refine A_mt rfl rfl rfl rfl ?_ | refine A_move rfl rfl _ (.inl rfl) (y := .sl _ _ _) rfl ?_)) | (refine kL 105 rfl ?_; (first | refine A_cmp (d := 9) rfl rfl (c := true) .lss 3 3 _ _ rfl rfl rfl (by exact congrArg some (decide_eq_true (by (try (dsimp only; fail_if_success done)); omega))) ?_ | refine A_add rfl rfl 3 3 _ _ rfl rfl rfl (by exact wi) ?_)) | (refine kL 838 rfl ?_; refine A_idx rfl rfl 26 _ _ rfl ud26 inf43 (by decide) (by exact .inl rfl) rfl (by omega) _ (by with_reducible exact Int.toNat_natCast _) (by exact map_get (by assumption)) rfl (cs' := [_, _, _, _]) rfl ?_) | (refine kL 1378 rfl ?_; (first | refine A_load_agg rfl rfl 43 _ rfl ud43 rfl inf43 rfl rfl (us' := [_, _, _, _]) rfl rfl ?_ | refine A_load_lp_agg rfl rfl 43 _ rfl ud43 rfl inf43 rfl (us' := [_, _, _, _]) rfl rfl ?_)) | refine A_alloc rfl rfl 43 rfl inf43 (cs := [.t (.v (.bool false)), .t (.v (.int .i64 0)), .t (.v (.int .i64 0)), AV.nl]) rfl (.push qL qN) ?_ | refine A_store rfl rfl 43 _ _ rfl inf43 rfl rfl rfl rfl (Nat.le_of_ble_eq_true rfl) qN qN ?_ | (refine kL 975 rfl ?_; refine A_lit0 rfl rfl 30 rfl ud30 inf45 ?_) | refine A_field rfl rfl 43 _ 3 rfl ud43 rfl inf30 (by decide) 3 rfl rfl ?_ | refine A_load rfl rfl 30 _ rfl ud30 rfl rfl rfl rfl ?_ | refine A_store rfl rfl 30 _ _ rfl inf30 rfl rfl rfl rfl (Nat.le_of_ble_eq_true rfl) qN qN ?_ | (refine kL 847 rfl ?_; refine A_lit rfl rfl 26 1 _ rfl ud26 inf43 (.cons rfl .nil) (els := [[_, _, _, _]]) rfl (by exact (rfl : _ = List.map tWt [a])) rfl (Nat.ne_of_beq_eq_false rfl) (Nat.le_of_ble_eq_true rfl) (Nat.le_of_ble_eq_true rfl) (.push qL qN) ?_) | refine AL.nil ?_)) | with_reducible refine AW.at_region _ ?_ | (with_reducible (first | refine wk0 ?_ | refine wk1 ?_ | refine wk2 ?_ | refine wk5 ?_ | refine wkd ?_)) | refine kct rfl ?_)
      all_goals first | (exfalso; omega) | skip
      refine ⟨(q + 1, k + 1, O ++ [a]), ⟨by dsimp only; omega, by dsimp only; rw [List.take_add_one, ha, h3]; rfl⟩, by dsimp only; omega, ?_⟩
      exact Wk.cq 1
    · have e : q = l.length := by omega
      subst e
      rw [List.take_length] at h3
      subst h3
      repeat' (first | ((with_reducible refine kAL ?_); (first | refine A_move rfl rfl _ (.inr rfl) (y := .sl _ _ _) rfl ?_ | refine A_move rfl rfl _ (.inl rfl) (y := .sl _ _ _) rfl ?_ | refine A_cmp (d := 9) rfl rfl (c := false) .lss 3 3 _ _ rfl rfl rfl (by exact congrArg some (decide_eq_false (by (try (dsimp only; fail_if_success done)); omega))) ?_ | refine AL.nil ?_)) | with_reducible refine AW.at_region _ ?_ | (with_reducible (first | refine wk0 ?_ | refine wk2 ?_ | refine wk4 ?_ | refine wk7 ?_ | refine wk9 ?_ | refine wkb ?_ | refine wkc ?_)) | refine kcf rfl ?_)
      all_goals first | (exfalso; omega) | (exact Fin.q Try.results29 (.cons (.tmp rfl) .nil) [0])
theorem at_c (l : List DWait) (t : Int) : Cd Try.prog 113 [.ln (l.map tWt), i64 t] (bo (decide (0 ≤ t ∧ t < l.length))) [] := by
  have h1 : (l.map tWt).length = l.length := List.length_map _
  by_cases p1 : 0 ≤ t <;> by_cases p2 : t < l.length
  all_goals
    refine Cd.enter' Try.func113 rfl Try.ntmps113 rfl ?_
    repeat' (first | ((with_reducible refine kAL ?_); (first | refine A_as rfl rfl rfl rfl ?_ | (refine kL 0 rfl ?_; (first | refine A_mt rfl rfl rfl rfl ?_ | refine A_move rfl rfl _ (.inl rfl) (y := .ln _) rfl ?_)) | (refine kL 105 rfl ?_; (first | refine A_cmp (d := 6) rfl rfl (c := true) .geq 3 3 _ _ rfl rfl rfl (by exact congrArg some (decide_eq_true (by (try (dsimp only; fail_if_success done)); omega))) ?_ | refine A_cmp (d := 6) rfl rfl (c := false) .geq 3 3 _ _ rfl rfl rfl (by exact congrArg some (decide_eq_false (by (try (dsimp only; fail_if_success done)); omega))) ?_ | refine A_cmp (d := 11) rfl rfl (c := true) .lss 3 3 _ _ rfl rfl rfl (by exact congrArg some (decide_eq_true (by (try (dsimp only; fail_if_success done)); omega))) ?_ | refine A_cmp (d := 11) rfl rfl (c := false) .lss 3 3 _ _ rfl rfl rfl (by exact congrArg some (decide_eq_false (by (try (dsimp only; fail_if_success done)); omega))) ?_)) | refine A_len rfl rfl 26 _ rfl ud26 rfl ?_ | refine A_pick rfl rfl _ _ _ rfl rfl rfl rfl rfl ?_ | refine AL.nil ?_ | refine AL.skip rfl rfl ?_)) | with_reducible refine AW.at_region _ ?_ | (with_reducible (first | refine wk0 ?_ | refine wk2 ?_ | refine wk9 ?_ | refine wkb ?_)))
    all_goals first | (exfalso; omega) | (refine Fin.q Try.results113 (.cons (.tmp rfl) .nil) [] (hr := (.t ?_)))
    all_goals first | (rw [decide_eq_true (by omega)]; done) | (rw [decide_eq_false (by omega)]; done) | (simp [*]; done) | (simp; omega)
set_option maxHeartbeats 4000000 in
theorem wput_c (l : List DWait) (t : Int) (w : DWait) (hl : okW l) (hw : w.cases.length ≤ 5864062014805) : Cd Try.prog 95 [.ln (l.map tWt), i64 t, .agg [bo w.on, i64 w.ticket, i64 w.seq, .ln (w.cases.map tCs)]] (.tup [.sl 0 0 l.length, bo (putOk l t)]) [.row 0 43 4 ((putW l t w).map tWt)] := by
  have h1 : (l.map tWt).length = l.length := List.length_map _
  by_cases ht : 0 ≤ t ∧ t < l.length
  · obtain ⟨n, rfl⟩ : ∃ n : Nat, t = n := ⟨t.toNat, by omega⟩
    obtain ⟨⟨on, tk, sq, cs⟩, ha⟩ : ∃ a, l[n]? = some a := ⟨_, List.getElem?_eq_getElem (by omega)⟩
    have cA := at_c l n
    rw [decide_eq_true ht] at cA
    cases on
    · rw [putW_yes (putOk_yes ha rfl), putOk_yes ha rfl]
      refine Cd.enter' Try.func95 rfl Try.ntmps95 rfl ?_
      repeat' (first | ((with_reducible refine kAL ?_); (first | (refine kL 2570 rfl ?_; (refine A_cl (d := 25) rfl rfl Try.func80 rfl (clone_Cs w.cases hw) ?_; (try refine AL.wk (Wk.freeze 2 rfl 25 rfl (by first | exact .all (by first | (simp <;> fail) | fail) | fail) qN) ?_))) | refine A_box rfl rfl 43 _ rfl rfl (.push qL qN) ?_ | (refine kL 1 rfl ?_; (first | refine A_as rfl rfl rfl rfl ?_ | refine A_move rfl rfl _ (.inr rfl) (y := .sl _ _ _) rfl ?_ | refine A_move rfl rfl _ (.inr rfl) (y := .nl) rfl ?_)) | (refine kL 0 rfl ?_; (first | refine A_mt rfl rfl rfl rfl ?_ | refine A_move rfl rfl _ (.inl rfl) (y := .sl _ _ _) rfl ?_ | refine A_move rfl rfl _ (.inl rfl) (y := .ln _) rfl ?_)) | (refine kL 1610 rfl ?_; refine A_cl rfl rfl Try.func50 rfl (wcopy_c l hl) ?_) | (refine kL 3626 rfl ?_; refine A_cl rfl rfl Try.func113 rfl (cA) ?_) | refine A_not rfl rfl _ _ rfl rfl ?_ | (refine kL 838 rfl ?_; (first | refine A_idx_sl rfl rfl 26 _ _ rfl ud26 inf43 rfl rfl (by first | exact Nat.le_refl _ | (simp <;> fail)) rfl (by omega) _ (by with_reducible exact Int.toNat_natCast _) (by omega) ?_ | refine A_idx rfl rfl 26 _ _ rfl ud26 inf43 (by decide) (by exact .inl rfl) rfl (by omega) _ (by with_reducible exact Int.toNat_natCast _) (by exact map_get (by assumption)) rfl (cs' := [_, _, _, _]) rfl ?_)) | (refine kL 1380 rfl ?_; (first | refine A_field rfl rfl 43 _ 0 rfl ud43 rfl inf4 (by decide) 0 rfl rfl ?_ | refine A_field rfl rfl 43 _ 3 rfl ud43 rfl inf30 (by decide) 3 rfl rfl ?_)) | refine A_load_lp rfl rfl 4 _ rfl ud4 rfl rfl rfl ?_ | refine A_pick rfl rfl _ _ _ rfl rfl rfl rfl rfl ?_ | refine A_load rfl rfl 30 _ rfl ud30 rfl rfl rfl rfl ?_ | refine A_store rfl rfl 4 _ _ rfl inf4 rfl rfl rfl rfl (Nat.le_of_ble_eq_true rfl) qN qN ?_ | refine A_store rfl rfl 30 _ _ rfl inf30 rfl rfl rfl rfl (Nat.le_of_ble_eq_true rfl) qN qN ?_ | refine A_load_agg rfl rfl 43 _ rfl ud43 rfl inf43 rfl rfl (us' := [_, _, _, _]) rfl rfl ?_ | (refine kL 1379 rfl ?_; refine A_store_rp rfl rfl 43 _ _ rfl inf43 (by decide) rfl rfl (by exact map_get (by assumption)) rfl rfl rfl (Nat.le_of_ble_eq_true rfl) (by exact map_set (f := tWt) (x := ⟨_, _, _, _⟩)) qN ?_) | refine AL.nil ?_)) | with_reducible refine AW.at_region _ ?_ | (with_reducible (first | refine wk0 ?_ | refine wk2 ?_ | refine wk9 ?_ | refine wkb ?_ | refine wkd ?_)) | refine kcf rfl ?_)
      all_goals first | (exfalso; omega) | (exact Fin.q Try.results95 (.cons (.tmp rfl) (.cons (.tmp rfl) .nil)) [1])
    · rw [putW_no (putOk_on ha rfl), putOk_on ha rfl]
      refine Cd.enter' Try.func95 rfl Try.ntmps95 rfl ?_
      repeat' (first | ((with_reducible refine kAL ?_); (first | refine A_box rfl rfl 43 _ rfl rfl (.push qL qN) ?_ | (refine kL 1 rfl ?_; (first | refine A_as rfl rfl rfl rfl ?_ | refine A_move rfl rfl _ (.inr rfl) (y := .sl _ _ _) rfl ?_ | refine A_move rfl rfl _ (.inr rfl) (y := .nl) rfl ?_)) | (refine kL 0 rfl ?_; (first | refine A_mt rfl rfl rfl rfl ?_ | refine A_move rfl rfl _ (.inl rfl) (y := .sl _ _ _) rfl ?_ | refine A_move rfl rfl _ (.inl rfl) (y := .ln _) rfl ?_)) | (refine kL 1610 rfl ?_; refine A_cl rfl rfl Try.func50 rfl (wcopy_c l hl) ?_) | (refine kL 3626 rfl ?_; refine A_cl rfl rfl Try.func113 rfl (cA) ?_) | refine A_not rfl rfl _ _ rfl rfl ?_ | (refine kL 838 rfl ?_; refine A_idx rfl rfl 26 _ _ rfl ud26 inf43 (by decide) (by exact .inl rfl) rfl (by omega) _ (by with_reducible exact Int.toNat_natCast _) (by exact map_get (by assumption)) rfl (cs' := [_, _, _, _]) rfl ?_) | refine A_field rfl rfl 43 _ 0 rfl ud43 rfl inf4 (by decide) 0 rfl rfl ?_ | refine A_load_lp rfl rfl 4 _ rfl ud4 rfl rfl rfl ?_ | refine A_pick rfl rfl _ _ _ rfl rfl rfl rfl rfl ?_ | refine AL.nil ?_)) | with_reducible refine AW.at_region _ ?_ | (with_reducible (first | refine wk0 ?_ | refine wk2 ?_ | refine wk3 ?_ | refine wk9 ?_ | refine wkb ?_)) | refine kct rfl ?_)
      all_goals first | (exfalso; omega) | (exact Fin.q Try.results95 (.cons (.tmp rfl) (.cons (.tmp rfl) .nil)) [1])
  · have cA := at_c l t
    rw [decide_eq_false ht] at cA
    rw [putW_no (putOk_out ht), putOk_out ht]
    refine Cd.enter' Try.func95 rfl Try.ntmps95 rfl ?_
    repeat' (first | ((with_reducible refine kAL ?_); (first | refine A_box rfl rfl 43 _ rfl rfl (.push qL qN) ?_ | (refine kL 1 rfl ?_; (first | refine A_as rfl rfl rfl rfl ?_ | refine A_move rfl rfl _ (.inr rfl) (y := .sl _ _ _) rfl ?_ | refine A_move rfl rfl _ (.inr rfl) (y := .nl) rfl ?_)) | (refine kL 0 rfl ?_; (first | refine A_mt rfl rfl rfl rfl ?_ | refine A_move rfl rfl _ (.inl rfl) (y := .sl _ _ _) rfl ?_ | refine A_move rfl rfl _ (.inl rfl) (y := .ln _) rfl ?_)) | (refine kL 1610 rfl ?_; refine A_cl rfl rfl Try.func50 rfl (wcopy_c l hl) ?_) | (refine kL 3626 rfl ?_; refine A_cl rfl rfl Try.func113 rfl (cA) ?_) | refine A_not rfl rfl _ _ rfl rfl ?_ | refine A_pick rfl rfl _ _ _ rfl rfl rfl rfl rfl ?_ | refine AL.nil ?_ | refine AL.skip rfl rfl ?_)) | with_reducible refine AW.at_region _ ?_ | (with_reducible (first | refine wk0 ?_ | refine wk2 ?_ | refine wk3 ?_ | refine wk9 ?_ | refine wkb ?_)) | refine kct rfl ?_)
    all_goals first | (exfalso; omega) | (exact Fin.q Try.results95 (.cons (.tmp rfl) (.cons (.tmp rfl) .nil)) [1])
set_option maxHeartbeats 4000000 in
theorem wputR_c (l : List DWait) (t : Int) (w : DWait) (hl : okW l) (hw : w.cases.length ≤ 5864062014805) : Cd Try.prog 70 [.ln (l.map tWt), i64 t, .agg [bo w.on, i64 w.ticket, i64 w.seq, .ln (w.cases.map tCs)]] (.tup [.sl 0 0 l.length, bo (putOk l t)]) [.row 0 43 4 ((putW l t w).map tWt)] := by
  have h1 : (l.map tWt).length = l.length := List.length_map _
  have h5 : (w.cases.map tCs).length = w.cases.length := List.length_map _
  by_cases ht : 0 ≤ t ∧ t < l.length
  · obtain ⟨n, rfl⟩ : ∃ n : Nat, t = n := ⟨t.toNat, by omega⟩
    obtain ⟨⟨on, tk, sq, cs⟩, ha⟩ : ∃ a, l[n]? = some a := ⟨_, List.getElem?_eq_getElem (by omega)⟩
    cases on
    · rw [putW_yes (putOk_yes ha rfl), putOk_yes ha rfl]
      refine Cd.enter' Try.func70 rfl Try.ntmps70 rfl ?_
      repeat' (first | ((with_reducible refine kAL ?_); (first | (refine kL 12 rfl ?_; (first | ((refine A_append_nl (d := 31) rfl rfl _ _ 30 rfl ud30 inf45 rfl rfl (by exact .ln (by exact each_map (fun _ => rfl))) qB qB (by ((try simp only [List.take_zero, List.take_succ_cons, List.drop_zero, List.drop_succ_cons, List.nil_append, List.cons_append, List.append_nil, List.length_cons, List.length_nil, List.set_cons_zero, List.set_cons_succ, List.map_cons, List.map_nil, List.take_nil, List.drop_nil, Nat.zero_add, Nat.add_zero, Nat.reduceAdd, Nat.reduceSub]); rfl)) (.push qL qN) qS ?_); (try refine AL.wk (Wk.freeze 2 rfl 31 rfl (by first | exact .all (by first | (simp <;> fail) | fail) | fail) qN) ?_)) | refine A_len rfl rfl 26 _ rfl ud26 rfl ?_)) | refine A_box rfl rfl 43 _ rfl rfl (.push qL qN) ?_ | (refine kL 1 rfl ?_; (first | refine A_as rfl rfl rfl rfl ?_ | refine A_move rfl rfl _ (.inr rfl) (y := .sl _ _ _) rfl ?_ | refine A_move rfl rfl _ (.inr rfl) (y := .nl) rfl ?_)) | (refine kL 0 rfl ?_; (first | refine A_mt rfl rfl rfl rfl ?_ | refine A_move rfl rfl _ (.inl rfl) (y := .sl _ _ _) rfl ?_ | refine A_move rfl rfl _ (.inl rfl) (y := .ln _) rfl ?_)) | (refine kL 938 rfl ?_; refine A_cl rfl rfl Try.func29 rfl (wcopyR_c l hl) ?_) | (refine kL 105 rfl ?_; (first | refine A_cmp (d := 12) rfl rfl (c := false) .lss 3 3 _ _ rfl rfl rfl (by exact congrArg some (decide_eq_false (by (try (dsimp only; fail_if_success done)); omega))) ?_ | refine A_cmp (d := 17) rfl rfl (c := false) .geq 3 3 _ _ rfl rfl rfl (by exact congrArg some (decide_eq_false (by (try (dsimp only; fail_if_success done)); omega))) ?_)) | refine A_pick rfl rfl _ _ _ rfl rfl rfl rfl rfl ?_ | (refine kL 838 rfl ?_; (first | refine A_idx_sl rfl rfl 26 _ _ rfl ud26 inf43 rfl rfl (by first | exact Nat.le_refl _ | (simp <;> fail)) rfl (by omega) _ (by with_reducible exact Int.toNat_natCast _) (by omega) ?_ | refine A_idx rfl rfl 26 _ _ rfl ud26 inf43 (by decide) (by exact .inl rfl) rfl (by omega) _ (by with_reducible exact Int.toNat_natCast _) (by exact map_get (by assumption)) rfl (cs' := [_, _, _, _]) rfl ?_)) | (refine kL 1380 rfl ?_; (first | refine A_field rfl rfl 43 _ 0 rfl ud43 rfl inf4 (by decide) 0 rfl rfl ?_ | refine A_field rfl rfl 43 _ 3 rfl ud43 rfl inf30 (by decide) 3 rfl rfl ?_)) | refine A_load_lp rfl rfl 4 _ rfl ud4 rfl rfl rfl ?_ | refine A_store rfl rfl 4 _ _ rfl inf4 rfl rfl rfl rfl (Nat.le_of_ble_eq_true rfl) qN qN ?_ | (refine kL 975 rfl ?_; refine A_lit0 rfl rfl 30 rfl ud30 inf45 ?_) | refine A_load rfl rfl 30 _ rfl ud30 rfl rfl rfl rfl ?_ | refine A_store rfl rfl 30 _ _ rfl inf30 rfl rfl rfl rfl (Nat.le_of_ble_eq_true rfl) qN qN ?_ | refine A_load_agg rfl rfl 43 _ rfl ud43 rfl inf43 rfl rfl (us' := [_, _, _, _]) rfl rfl ?_ | (refine kL 1379 rfl ?_; refine A_store_rp rfl rfl 43 _ _ rfl inf43 (by decide) rfl rfl (by exact map_get (by assumption)) rfl rfl rfl (Nat.le_of_ble_eq_true rfl) (by exact map_set (f := tWt) (x := ⟨_, _, _, _⟩)) qN ?_) | refine AL.nil ?_)) | with_reducible refine AW.at_region _ ?_ | (with_reducible (first | refine wk0 ?_ | refine wk2 ?_ | refine wk9 ?_ | refine wkb ?_ | refine wkd ?_)) | refine kcf rfl ?_)
      all_goals first | (exfalso; omega) | (exact Fin.q Try.results70 (.cons (.tmp rfl) (.cons (.tmp rfl) .nil)) [1])
    · rw [putW_no (putOk_on ha rfl), putOk_on ha rfl]
      refine Cd.enter' Try.func70 rfl Try.ntmps70 rfl ?_
      repeat' (first | ((with_reducible refine kAL ?_); (first | refine A_box rfl rfl 43 _ rfl rfl (.push qL qN) ?_ | (refine kL 1 rfl ?_; (first | refine A_as rfl rfl rfl rfl ?_ | refine A_move rfl rfl _ (.inr rfl) (y := .sl _ _ _) rfl ?_ | refine A_move rfl rfl _ (.inr rfl) (y := .nl) rfl ?_)) | (refine kL 0 rfl ?_; (first | refine A_mt rfl rfl rfl rfl ?_ | refine A_move rfl rfl _ (.inl rfl) (y := .sl _ _ _) rfl ?_ | refine A_move rfl rfl _ (.inl rfl) (y := .ln _) rfl ?_)) | (refine kL 938 rfl ?_; refine A_cl rfl rfl Try.func29 rfl (wcopyR_c l hl) ?_) | (refine kL 105 rfl ?_; (first | refine A_cmp (d := 12) rfl rfl (c := false) .lss 3 3 _ _ rfl rfl rfl (by exact congrArg some (decide_eq_false (by (try (dsimp only; fail_if_success done)); omega))) ?_ | refine A_cmp (d := 17) rfl rfl (c := false) .geq 3 3 _ _ rfl rfl rfl (by exact congrArg some (decide_eq_false (by (try (dsimp only; fail_if_success done)); omega))) ?_)) | refine A_len rfl rfl 26 _ rfl ud26 rfl ?_ | refine A_pick rfl rfl _ _ _ rfl rfl rfl rfl rfl ?_ | (refine kL 838 rfl ?_; refine A_idx rfl rfl 26 _ _ rfl ud26 inf43 (by decide) (by exact .inl rfl) rfl (by omega) _ (by with_reducible exact Int.toNat_natCast _) (by exact map_get (by assumption)) rfl (cs' := [_, _, _, _]) rfl ?_) | refine A_field rfl rfl 43 _ 0 rfl ud43 rfl inf4 (by decide) 0 rfl rfl ?_ | refine A_load_lp rfl rfl 4 _ rfl ud4 rfl rfl rfl ?_ | refine AL.nil ?_)) | with_reducible refine AW.at_region _ ?_ | (with_reducible (first | refine wk0 ?_ | refine wk2 ?_ | refine wk3 ?_ | refine wk9 ?_ | refine wkb ?_)) | refine kct rfl ?_)
      all_goals first | (exfalso; omega) | (exact Fin.q Try.results70 (.cons (.tmp rfl) (.cons (.tmp rfl) .nil)) [1])
  · rw [putW_no (putOk_out ht), putOk_out ht]
    by_cases h0 : t < 0
    all_goals
      refine Cd.enter' Try.func70 rfl Try.ntmps70 rfl ?_
      repeat' (first | ((with_reducible refine kAL ?_); (first | refine A_box rfl rfl 43 _ rfl rfl (.push qL qN) ?_ | (refine kL 1 rfl ?_; (first | refine A_as rfl rfl rfl rfl ?_ | refine A_move rfl rfl _ (.inr rfl) (y := .sl _ _ _) rfl ?_ | refine A_move rfl rfl _ (.inr rfl) (y := .nl) rfl ?_)) | (refine kL 0 rfl ?_; (first | refine A_mt rfl rfl rfl rfl ?_ | refine A_move rfl rfl _ (.inl rfl) (y := .sl _ _ _) rfl ?_ | refine A_move rfl rfl _ (.inl rfl) (y := .ln _) rfl ?_)) | (refine kL 938 rfl ?_; refine A_cl rfl rfl Try.func29 rfl (wcopyR_c l hl) ?_) | (refine kL 105 rfl ?_; (first | refine A_cmp (d := 12) rfl rfl (c := true) .lss 3 3 _ _ rfl rfl rfl (by exact congrArg some (decide_eq_true (by (try (dsimp only; fail_if_success done)); omega))) ?_ | refine A_cmp (d := 12) rfl rfl (c := false) .lss 3 3 _ _ rfl rfl rfl (by exact congrArg some (decide_eq_false (by (try (dsimp only; fail_if_success done)); omega))) ?_ | refine A_cmp (d := 17) rfl rfl (c := true) .geq 3 3 _ _ rfl rfl rfl (by exact congrArg some (decide_eq_true (by (try (dsimp only; fail_if_success done)); omega))) ?_)) | refine A_len rfl rfl 26 _ rfl ud26 rfl ?_ | refine A_pick rfl rfl _ _ _ rfl rfl rfl rfl rfl ?_ | refine AL.nil ?_ | refine AL.skip rfl rfl ?_)) | with_reducible refine AW.at_region _ ?_ | (with_reducible (first | refine wk0 ?_ | refine wk2 ?_ | refine wk3 ?_ | refine wk9 ?_ | refine wkb ?_)) | refine kct rfl ?_)
      all_goals first | (exfalso; omega) | (exact Fin.q Try.results70 (.cons (.tmp rfl) (.cons (.tmp rfl) .nil)) [1])
set_option maxHeartbeats 4000000 in
theorem wcut_c (l : List DWait) (t : Int) (hl : okW l) : Cd Try.prog 98 [.ln (l.map tWt), i64 t] (.tup [.sl 0 0 l.length, bo (cutOk l t)]) [.row 0 43 4 ((cutW l t).map tWt)] := by
  have h1 : (l.map tWt).length = l.length := List.length_map _
  by_cases ht : 0 ≤ t ∧ t < l.length
  · obtain ⟨n, rfl⟩ : ∃ n : Nat, t = n := ⟨t.toNat, by omega⟩
    obtain ⟨⟨on, tk, sq, cs⟩, ha⟩ : ∃ a, l[n]? = some a := ⟨_, List.getElem?_eq_getElem (by omega)⟩
    have cA := at_c l n
    rw [decide_eq_true ht] at cA
    cases on
    · rw [cutW_no (cutOk_off ha rfl), cutOk_off ha rfl]
      refine Cd.enter' Try.func98 rfl Try.ntmps98 rfl ?_
      repeat' (first | ((with_reducible refine kAL ?_); (first | (refine kL 1 rfl ?_; (first | refine A_as rfl rfl rfl rfl ?_ | refine A_move rfl rfl _ (.inr rfl) (y := .sl _ _ _) rfl ?_ | refine A_move rfl rfl _ (.inr rfl) (y := .nl) rfl ?_)) | (refine kL 0 rfl ?_; (first | refine A_mt rfl rfl rfl rfl ?_ | refine A_move rfl rfl _ (.inl rfl) (y := .sl _ _ _) rfl ?_ | refine A_move rfl rfl _ (.inl rfl) (y := .ln _) rfl ?_)) | (refine kL 1610 rfl ?_; refine A_cl rfl rfl Try.func50 rfl (wcopy_c l hl) ?_) | (refine kL 3626 rfl ?_; refine A_cl rfl rfl Try.func113 rfl (cA) ?_) | refine A_not rfl rfl _ _ rfl rfl ?_ | (refine kL 838 rfl ?_; refine A_idx rfl rfl 26 _ _ rfl ud26 inf43 (by decide) (by exact .inl rfl) rfl (by omega) _ (by with_reducible exact Int.toNat_natCast _) (by exact map_get (by assumption)) rfl (cs' := [_, _, _, _]) rfl ?_) | refine A_field rfl rfl 43 _ 0 rfl ud43 rfl inf4 (by decide) 0 rfl rfl ?_ | refine A_load_lp rfl rfl 4 _ rfl ud4 rfl rfl rfl ?_ | refine A_pick rfl rfl _ _ _ rfl rfl rfl rfl rfl ?_ | refine AL.nil ?_)) | with_reducible refine AW.at_region _ ?_ | (with_reducible (first | refine wk0 ?_ | refine wk2 ?_ | refine wk3 ?_ | refine wk9 ?_ | refine wkb ?_)) | refine kct rfl ?_)
      all_goals first | (exfalso; omega) | (exact Fin.q Try.results98 (.cons (.tmp rfl) (.cons (.tmp rfl) .nil)) [0])
    · rw [cutW_yes (cutOk_yes ha rfl), cutOk_yes ha rfl]
      refine Cd.enter' Try.func98 rfl Try.ntmps98 rfl ?_
      repeat' (first | ((with_reducible refine kAL ?_); (first | (refine kL 1390 rfl ?_; (refine A_build (d := 24) rfl rfl 43 _ rfl ud43 inf43 [(0, 1), (1, 1), (2, 1), (3, 1)] (by kernel_rfl) (zs := [.t (.v (.bool false)), .t (.v (.int .i64 0)), .t (.v (.int .i64 0)), AV.nl]) rfl .nil (cs := [_, _, _, _]) rfl ?_; (try refine AL.wk (Wk.nz 24 rfl (by exact .aggL (.cons (by exact .same _) (.cons (by exact .same _) (.cons (by exact .same _) (.cons (by exact .nlt) .nil)))))) ?_))) | (refine kL 1 rfl ?_; (first | refine A_as rfl rfl rfl rfl ?_ | refine A_move rfl rfl _ (.inr rfl) (y := .sl _ _ _) rfl ?_ | refine A_move rfl rfl _ (.inr rfl) (y := .nl) rfl ?_)) | (refine kL 0 rfl ?_; (first | refine A_mt rfl rfl rfl rfl ?_ | refine A_move rfl rfl _ (.inl rfl) (y := .sl _ _ _) rfl ?_ | refine A_move rfl rfl _ (.inl rfl) (y := .ln _) rfl ?_)) | (refine kL 1610 rfl ?_; refine A_cl rfl rfl Try.func50 rfl (wcopy_c l hl) ?_) | (refine kL 3626 rfl ?_; refine A_cl rfl rfl Try.func113 rfl (cA) ?_) | refine A_not rfl rfl _ _ rfl rfl ?_ | (refine kL 838 rfl ?_; (first | refine A_idx_sl rfl rfl 26 _ _ rfl ud26 inf43 rfl rfl (by first | exact Nat.le_refl _ | (simp <;> fail)) rfl (by omega) _ (by with_reducible exact Int.toNat_natCast _) (by omega) ?_ | refine A_idx rfl rfl 26 _ _ rfl ud26 inf43 (by decide) (by exact .inl rfl) rfl (by omega) _ (by with_reducible exact Int.toNat_natCast _) (by exact map_get (by assumption)) rfl (cs' := [_, _, _, _]) rfl ?_)) | refine A_field rfl rfl 43 _ 0 rfl ud43 rfl inf4 (by decide) 0 rfl rfl ?_ | refine A_load_lp rfl rfl 4 _ rfl ud4 rfl rfl rfl ?_ | refine A_pick rfl rfl _ _ _ rfl rfl rfl rfl rfl ?_ | (refine kL 1379 rfl ?_; refine A_store_rp rfl rfl 43 _ _ rfl inf43 (by decide) rfl rfl (by exact map_get (by assumption)) rfl rfl rfl (Nat.le_of_ble_eq_true rfl) (by exact map_set (f := tWt) (x := w0)) qN ?_) | refine AL.nil ?_)) | with_reducible refine AW.at_region _ ?_ | (with_reducible (first | refine wk0 ?_ | refine wk2 ?_ | refine wk9 ?_ | refine wkb ?_ | refine wkd ?_)) | refine kcf rfl ?_)
      all_goals first | (exfalso; omega) | (exact Fin.q Try.results98 (.cons (.tmp rfl) (.cons (.tmp rfl) .nil)) [0])
  · have cA := at_c l t
    rw [decide_eq_false ht] at cA
    rw [cutW_no (cutOk_out ht), cutOk_out ht]
    refine Cd.enter' Try.func98 rfl Try.ntmps98 rfl ?_
    repeat' (first | ((with_reducible refine kAL ?_); (first | (refine kL 1 rfl ?_; (first | refine A_as rfl rfl rfl rfl ?_ | refine A_move rfl rfl _ (.inr rfl) (y := .sl _ _ _) rfl ?_ | refine A_move rfl rfl _ (.inr rfl) (y := .nl) rfl ?_)) | (refine kL 0 rfl ?_; (first | refine A_mt rfl rfl rfl rfl ?_ | refine A_move rfl rfl _ (.inl rfl) (y := .sl _ _ _) rfl ?_ | refine A_move rfl rfl _ (.inl rfl) (y := .ln _) rfl ?_)) | (refine kL 1610 rfl ?_; refine A_cl rfl rfl Try.func50 rfl (wcopy_c l hl) ?_) | (refine kL 3626 rfl ?_; refine A_cl rfl rfl Try.func113 rfl (cA) ?_) | refine A_not rfl rfl _ _ rfl rfl ?_ | refine A_pick rfl rfl _ _ _ rfl rfl rfl rfl rfl ?_ | refine AL.nil ?_ | refine AL.skip rfl rfl ?_)) | with_reducible refine AW.at_region _ ?_ | (with_reducible (first | refine wk0 ?_ | refine wk2 ?_ | refine wk3 ?_ | refine wk9 ?_ | refine wkb ?_)) | refine kct rfl ?_)
    all_goals first | (exfalso; omega) | (exact Fin.q Try.results98 (.cons (.tmp rfl) (.cons (.tmp rfl) .nil)) [0])
set_option maxHeartbeats 4000000 in
theorem wcutR_c (l : List DWait) (t : Int) (hl : okW l) : Cd Try.prog 73 [.ln (l.map tWt), i64 t] (.tup [.sl 0 0 l.length, bo (cutOk l t)]) [.row 0 43 4 ((cutW l t).map tWt)] := by
  have h1 : (l.map tWt).length = l.length := List.length_map _
  by_cases ht : 0 ≤ t ∧ t < l.length
  · obtain ⟨n, rfl⟩ : ∃ n : Nat, t = n := ⟨t.toNat, by omega⟩
    obtain ⟨⟨on, tk, sq, cs⟩, ha⟩ : ∃ a, l[n]? = some a := ⟨_, List.getElem?_eq_getElem (by omega)⟩
    cases on
    · rw [cutW_no (cutOk_off ha rfl), cutOk_off ha rfl]
      refine Cd.enter' Try.func73 rfl Try.ntmps73 rfl ?_
      repeat' (first | ((with_reducible refine kAL ?_); (first | (refine kL 1 rfl ?_; (first | refine A_as rfl rfl rfl rfl ?_ | refine A_move rfl rfl _ (.inr rfl) (y := .sl _ _ _) rfl ?_ | refine A_move rfl rfl _ (.inr rfl) (y := .nl) rfl ?_)) | (refine kL 0 rfl ?_; (first | refine A_mt rfl rfl rfl rfl ?_ | refine A_move rfl rfl _ (.inl rfl) (y := .sl _ _ _) rfl ?_ | refine A_move rfl rfl _ (.inl rfl) (y := .ln _) rfl ?_)) | (refine kL 938 rfl ?_; refine A_cl rfl rfl Try.func29 rfl (wcopyR_c l hl) ?_) | (refine kL 105 rfl ?_; (first | refine A_cmp (d := 10) rfl rfl (c := false) .lss 3 3 _ _ rfl rfl rfl (by exact congrArg some (decide_eq_false (by (try (dsimp only; fail_if_success done)); omega))) ?_ | refine A_cmp (d := 15) rfl rfl (c := false) .geq 3 3 _ _ rfl rfl rfl (by exact congrArg some (decide_eq_false (by (try (dsimp only; fail_if_success done)); omega))) ?_)) | refine A_len rfl rfl 26 _ rfl ud26 rfl ?_ | refine A_pick rfl rfl _ _ _ rfl rfl rfl rfl rfl ?_ | (refine kL 838 rfl ?_; refine A_idx rfl rfl 26 _ _ rfl ud26 inf43 (by decide) (by exact .inl rfl) rfl (by omega) _ (by with_reducible exact Int.toNat_natCast _) (by exact map_get (by assumption)) rfl (cs' := [_, _, _, _]) rfl ?_) | refine A_field rfl rfl 43 _ 0 rfl ud43 rfl inf4 (by decide) 0 rfl rfl ?_ | refine A_load_lp rfl rfl 4 _ rfl ud4 rfl rfl rfl ?_ | refine A_not rfl rfl _ _ rfl rfl ?_ | refine AL.nil ?_)) | with_reducible refine AW.at_region _ ?_ | (with_reducible (first | refine wk0 ?_ | refine wk2 ?_ | refine wk3 ?_ | refine wk9 ?_ | refine wkb ?_)) | refine kct rfl ?_)
      all_goals first | (exfalso; omega) | (exact Fin.q Try.results73 (.cons (.tmp rfl) (.cons (.tmp rfl) .nil)) [0])
    · rw [cutW_yes (cutOk_yes ha rfl), cutOk_yes ha rfl]
      refine Cd.enter' Try.func73 rfl Try.ntmps73 rfl ?_
      repeat' (first | ((with_reducible refine kAL ?_); (first | (refine kL 1390 rfl ?_; (refine A_build (d := 28) rfl rfl 43 _ rfl ud43 inf43 [(0, 1), (1, 1), (2, 1), (3, 1)] (by kernel_rfl) (zs := [.t (.v (.bool false)), .t (.v (.int .i64 0)), .t (.v (.int .i64 0)), AV.nl]) rfl .nil (cs := [_, _, _, _]) rfl ?_; (try refine AL.wk (Wk.nz 28 rfl (by exact .aggL (.cons (by exact .same _) (.cons (by exact .same _) (.cons (by exact .same _) (.cons (by exact .nlt) .nil)))))) ?_))) | (refine kL 1 rfl ?_; (first | refine A_as rfl rfl rfl rfl ?_ | refine A_move rfl rfl _ (.inr rfl) (y := .sl _ _ _) rfl ?_ | refine A_move rfl rfl _ (.inr rfl) (y := .nl) rfl ?_)) | (refine kL 0 rfl ?_; (first | refine A_mt rfl rfl rfl rfl ?_ | refine A_move rfl rfl _ (.inl rfl) (y := .sl _ _ _) rfl ?_ | refine A_move rfl rfl _ (.inl rfl) (y := .ln _) rfl ?_)) | (refine kL 938 rfl ?_; refine A_cl rfl rfl Try.func29 rfl (wcopyR_c l hl) ?_) | (refine kL 105 rfl ?_; (first | refine A_cmp (d := 10) rfl rfl (c := false) .lss 3 3 _ _ rfl rfl rfl (by exact congrArg some (decide_eq_false (by (try (dsimp only; fail_if_success done)); omega))) ?_ | refine A_cmp (d := 15) rfl rfl (c := false) .geq 3 3 _ _ rfl rfl rfl (by exact congrArg some (decide_eq_false (by (try (dsimp only; fail_if_success done)); omega))) ?_)) | refine A_len rfl rfl 26 _ rfl ud26 rfl ?_ | refine A_pick rfl rfl _ _ _ rfl rfl rfl rfl rfl ?_ | (refine kL 838 rfl ?_; (first | refine A_idx_sl rfl rfl 26 _ _ rfl ud26 inf43 rfl rfl (by first | exact Nat.le_refl _ | (simp <;> fail)) rfl (by omega) _ (by with_reducible exact Int.toNat_natCast _) (by omega) ?_ | refine A_idx rfl rfl 26 _ _ rfl ud26 inf43 (by decide) (by exact .inl rfl) rfl (by omega) _ (by with_reducible exact Int.toNat_natCast _) (by exact map_get (by assumption)) rfl (cs' := [_, _, _, _]) rfl ?_)) | refine A_field rfl rfl 43 _ 0 rfl ud43 rfl inf4 (by decide) 0 rfl rfl ?_ | refine A_load_lp rfl rfl 4 _ rfl ud4 rfl rfl rfl ?_ | refine A_not rfl rfl _ _ rfl rfl ?_ | (refine kL 1379 rfl ?_; refine A_store_rp rfl rfl 43 _ _ rfl inf43 (by decide) rfl rfl (by exact map_get (by assumption)) rfl rfl rfl (Nat.le_of_ble_eq_true rfl) (by exact map_set (f := tWt) (x := w0)) qN ?_) | refine AL.nil ?_)) | with_reducible refine AW.at_region _ ?_ | (with_reducible (first | refine wk0 ?_ | refine wk2 ?_ | refine wk9 ?_ | refine wkb ?_ | refine wkd ?_)) | refine kcf rfl ?_)
      all_goals first | (exfalso; omega) | (exact Fin.q Try.results73 (.cons (.tmp rfl) (.cons (.tmp rfl) .nil)) [0])
  · rw [cutW_no (cutOk_out ht), cutOk_out ht]
    by_cases h0 : t < 0
    all_goals
      refine Cd.enter' Try.func73 rfl Try.ntmps73 rfl ?_
      repeat' (first | ((with_reducible refine kAL ?_); (first | (refine kL 1 rfl ?_; (first | refine A_as rfl rfl rfl rfl ?_ | refine A_move rfl rfl _ (.inr rfl) (y := .sl _ _ _) rfl ?_ | refine A_move rfl rfl _ (.inr rfl) (y := .nl) rfl ?_)) | (refine kL 0 rfl ?_; (first | refine A_mt rfl rfl rfl rfl ?_ | refine A_move rfl rfl _ (.inl rfl) (y := .sl _ _ _) rfl ?_ | refine A_move rfl rfl _ (.inl rfl) (y := .ln _) rfl ?_)) | (refine kL 938 rfl ?_; refine A_cl rfl rfl Try.func29 rfl (wcopyR_c l hl) ?_) | (refine kL 105 rfl ?_; (first | refine A_cmp (d := 10) rfl rfl (c := true) .lss 3 3 _ _ rfl rfl rfl (by exact congrArg some (decide_eq_true (by (try (dsimp only; fail_if_success done)); omega))) ?_ | refine A_cmp (d := 10) rfl rfl (c := false) .lss 3 3 _ _ rfl rfl rfl (by exact congrArg some (decide_eq_false (by (try (dsimp only; fail_if_success done)); omega))) ?_ | refine A_cmp (d := 15) rfl rfl (c := true) .geq 3 3 _ _ rfl rfl rfl (by exact congrArg some (decide_eq_true (by (try (dsimp only; fail_if_success done)); omega))) ?_)) | refine A_len rfl rfl 26 _ rfl ud26 rfl ?_ | refine A_pick rfl rfl _ _ _ rfl rfl rfl rfl rfl ?_ | refine AL.nil ?_ | refine AL.skip rfl rfl ?_)) | with_reducible refine AW.at_region _ ?_ | (with_reducible (first | refine wk0 ?_ | refine wk2 ?_ | refine wk3 ?_ | refine wk9 ?_ | refine wkb ?_)) | refine kct rfl ?_)
      all_goals first | (exfalso; omega) | (exact Fin.q Try.results73 (.cons (.tmp rfl) (.cons (.tmp rfl) .nil)) [0])
end Go.Proofs.Ytphcebioiipdpaa


namespace Go.Proofs.Ytphcebioiipdpaa
set_option linter.unusedVariables false
set_option linter.unusedSimpArgs false
set_option linter.unnecessarySimpa false
open Go.RowKit
set_option maxHeartbeats 32000000
attribute [local irreducible] AL AW RG Fin C Cd Cio thenQ blockQ retQ
set_option maxRecDepth 100000
set_option maxHeartbeats 4000000 in
theorem idxF_c (f : FuncId) (fi cap : List AV) (p : DCase → Bool) (hg : ∀ c : DCase, CV Try.prog (.fn (.func f) fi cap) [.agg ((tCs c).map .t)] (.t (.v (.bool (p c)))) []) (hup : upB (keepG 0) (.fn (.func f) fi cap) = .fn (.func f) fi cap)
    (l : List DCase) (hl : l.length ≤ 1152921504606846976) : Cd Try.prog 104 [.ln (l.map tCs), .fn (.func f) fi cap] (i64 (ixF p l)) [] := by
  have h1 : (l.map tCs).length = l.length := List.length_map _
  refine Cd.enter' Try.func104 rfl Try.ntmps104 rfl ?_
  repeat' (first | ((with_reducible refine kAL ?_); (first | refine A_as rfl rfl rfl rfl ?_ | (refine kL 0 rfl ?_; (first | refine A_mt rfl rfl rfl rfl ?_ | refine A_move rfl rfl _ (.inl rfl) (y := .ln _) rfl ?_)) | refine A_len rfl rfl 30 _ rfl ud30 rfl ?_ | refine AL.nil ?_)) | with_reducible refine AW.at_region _ ?_ | (with_reducible (first | refine wk0 ?_ | refine wk1 ?_ | refine wk2 ?_)))
  refine AW.loopP (fun (q : Nat) => q ≤ l.length ∧ ∀ j, j < q → ∀ b, l[j]? = some b → p b = false) (fun (q : Nat) => (pu (pu (pu (pu (fun _ => .any) 0 (.ln (l.map tCs))) 1 (.fn (.func f) fi cap)) 7 (i64 (l.map tCs).length)) 8 (i64 q))) (fun (q : Nat) => []) (fun (q : Nat) => l.length - q) (0) ?_ ?_ ?_
  · exact ⟨Nat.zero_le _, fun j hj => by omega⟩
  · exact Wk.cq 0
  · rintro q ⟨h2, h3⟩
    by_cases hq : q < l.length
    · obtain ⟨a, ha⟩ : ∃ a, l[q]? = some a := ⟨_, List.getElem?_eq_getElem hq⟩
      have c1 := hg a
      cases hp : p a
      · rw [hp] at c1
        repeat' (first | ((with_reducible refine kAL ?_); (first | refine A_as rfl rfl rfl rfl ?_ | (refine kL 0 rfl ?_; (first | refine A_mt rfl rfl rfl rfl ?_ | refine A_move rfl rfl _ (.inl rfl) (y := .ln _) rfl ?_ | refine A_move rfl rfl _ (.inl rfl) (y := .fn _ _ _) rfl ?_)) | (refine kL 105 rfl ?_; (first | refine A_cmp (d := 9) rfl rfl (c := true) .lss 3 3 _ _ rfl rfl rfl (by exact congrArg some (decide_eq_true (by (try (dsimp only; fail_if_success done)); omega))) ?_ | refine A_add rfl rfl 3 3 _ _ rfl rfl rfl (by exact wi) ?_)) | (refine kL 966 rfl ?_; refine A_idx rfl rfl 30 _ _ rfl ud30 inf45 (by decide) (by exact .inl rfl) rfl (by omega) _ (by with_reducible exact Int.toNat_natCast _) (by exact map_get (by assumption)) rfl (cs' := [_, _, _]) rfl ?_) | refine A_load_lp_agg rfl rfl 45 _ rfl ud45 rfl inf45 rfl (us' := [_, _, _]) rfl rfl ?_ | (refine kL 11 rfl ?_; refine A_callv rfl rfl rfl rfl (c1) (by ((repeat (first | exact .nil | refine .cons ?_ ?_ | exact .t _ | refine .aggL ?_)); (first | done | fail))) qL qU qU qN ?_) | refine AL.nil ?_)) | with_reducible refine AW.at_region _ ?_ | (with_reducible (first | refine wk0 ?_ | refine wk1 ?_ | refine wk2 ?_ | refine wk5 ?_ | refine wkd ?_)) | refine kct rfl ?_ | refine kcf rfl ?_)
        all_goals first | (exfalso; omega) | skip
        refine ⟨q + 1, ⟨by omega, fun j hj b hb => ?_⟩, by omega, ?_⟩
        · by_cases e : j = q
          · subst e; rw [ha] at hb; cases hb; exact hp
          · exact h3 j (by omega) b hb
        · exact Wk.cq 0
      · rw [hp] at c1
        rw [ixF_at p l q a h3 ha hp]
        repeat' (first | ((with_reducible refine kAL ?_); (first | refine A_as rfl rfl rfl rfl ?_ | (refine kL 0 rfl ?_; (first | refine A_mt rfl rfl rfl rfl ?_ | refine A_move rfl rfl _ (.inl rfl) (y := .ln _) rfl ?_ | refine A_move rfl rfl _ (.inl rfl) (y := .fn _ _ _) rfl ?_)) | refine A_cmp (d := 9) rfl rfl (c := true) .lss 3 3 _ _ rfl rfl rfl (by exact congrArg some (decide_eq_true (by (try (dsimp only; fail_if_success done)); omega))) ?_ | (refine kL 966 rfl ?_; refine A_idx rfl rfl 30 _ _ rfl ud30 inf45 (by decide) (by exact .inl rfl) rfl (by omega) _ (by with_reducible exact Int.toNat_natCast _) (by exact map_get (by assumption)) rfl (cs' := [_, _, _]) rfl ?_) | refine A_load_lp_agg rfl rfl 45 _ rfl ud45 rfl inf45 rfl (us' := [_, _, _]) rfl rfl ?_ | (refine kL 11 rfl ?_; refine A_callv rfl rfl rfl rfl (c1) (by ((repeat (first | exact .nil | refine .cons ?_ ?_ | exact .t _ | refine .aggL ?_)); (first | done | fail))) qL qU qU qN ?_) | refine AL.nil ?_)) | with_reducible refine AW.at_region _ ?_ | (with_reducible (first | refine wk0 ?_ | refine wk1 ?_ | refine wk2 ?_ | refine wk3 ?_ | refine wk6 ?_ | refine wk9 ?_ | refine wkb ?_ | refine wkd ?_)) | refine kct rfl ?_)
        all_goals first | (exfalso; omega) | (exact Fin.q Try.results104 (.cons (.tmp rfl) .nil) [])
    · rw [ixF_none p l fun j b hb => h3 j (by have := get_lt hb; omega) b hb]
      repeat' (first | ((with_reducible refine kAL ?_); (first | refine A_as rfl rfl rfl rfl ?_ | refine A_cmp (d := 9) rfl rfl (c := false) .lss 3 3 _ _ rfl rfl rfl (by exact congrArg some (decide_eq_false (by (try (dsimp only; fail_if_success done)); omega))) ?_ | refine AL.nil ?_)) | with_reducible refine AW.at_region _ ?_ | (with_reducible (first | refine wk0 ?_ | refine wk2 ?_ | refine wk4 ?_ | refine wk7 ?_ | refine wk9 ?_ | refine wkb ?_ | refine wkc ?_)) | refine kcf rfl ?_)
      all_goals first | (exfalso; omega) | (exact Fin.q Try.results104 (.cons (.tmp rfl) .nil) [])
theorem has1_c (d h : Int) (c : DCase) : Cd Try.prog 125 [.agg ((tCs c).map .t), .lp [i64 d], .lp [i64 h]] (bo (isC d h c)) [] := by
  obtain ⟨a, b, v⟩ := c
  by_cases p1 : a = d <;> by_cases p2 : b = h
  all_goals
    refine Cd.enter' Try.func125 rfl Try.ntmps125 rfl ?_
    repeat' (first | ((with_reducible refine kAL ?_); (first | refine A_box rfl rfl 45 _ rfl rfl (.push qL qN) ?_ | refine A_as rfl rfl rfl rfl ?_ | (refine kL 1444 rfl ?_; (first | refine A_field rfl rfl 45 _ 0 rfl ud45 rfl inf3 (by decide) 0 rfl rfl ?_ | refine A_field rfl rfl 45 _ 1 rfl ud45 rfl inf3 (by decide) 1 rfl rfl ?_)) | (refine kL 98 rfl ?_; (first | refine A_load rfl rfl 3 _ rfl ud3 rfl rfl rfl rfl ?_ | refine A_load_lp rfl rfl 3 _ rfl ud3 rfl rfl rfl ?_)) | (refine kL 105 rfl ?_; (first | refine A_cmp (d := 8) rfl rfl (c := true) .eql 3 3 _ _ rfl rfl rfl (by exact congrArg some (decide_eq_true (by (try (dsimp only; fail_if_success done)); omega))) ?_ | refine A_cmp (d := 8) rfl rfl (c := false) .eql 3 3 _ _ rfl rfl rfl (by exact congrArg some (decide_eq_false (by (try (dsimp only; fail_if_success done)); omega))) ?_ | refine A_cmp (d := 13) rfl rfl (c := true) .eql 3 3 _ _ rfl rfl rfl (by exact congrArg some (decide_eq_true (by (try (dsimp only; fail_if_success done)); omega))) ?_ | refine A_cmp (d := 13) rfl rfl (c := false) .eql 3 3 _ _ rfl rfl rfl (by exact congrArg some (decide_eq_false (by (try (dsimp only; fail_if_success done)); omega))) ?_)) | refine A_mt rfl rfl rfl rfl ?_ | refine A_pick rfl rfl _ _ _ rfl rfl rfl rfl rfl ?_ | refine AL.nil ?_ | refine AL.skip rfl rfl ?_)) | with_reducible refine AW.at_region _ ?_ | (with_reducible (first | refine wk0 ?_ | refine wk2 ?_ | refine wk9 ?_ | refine wkb ?_)))
    all_goals first | (exfalso; omega) | (refine Fin.q Try.results125 (.cons (.tmp rfl) .nil) [] (hr := (.t ?_)))
    all_goals first | (simp [isC, *]; done) | skip
theorem whas_c (w : DWait) (d h : Int) (hw : w.cases.length ≤ 1152921504606846976) : Cd Try.prog 120 [.agg [bo w.on, i64 w.ticket, i64 w.seq, .ln (w.cases.map tCs)], i64 d, i64 h] (.tup [i64 (max (ixF (isC d h) w.cases) 0), bo (decide (0 ≤ ixF (isC d h) w.cases) && w.on)]) [] := by
  have c1 := idxF_c 125 [] [.lp [i64 d], .lp [i64 h]] (isC d h) (fun c => ⟨_, _, [], [.lp [i64 d], .lp [i64 h]], rfl, Try.func125, by kernel_rfl, by kernel_rfl, fun _ => .nil, fun _ => .cons (.lpL (.cons (.t _) .nil)) (.cons (.lpL (.cons (.t _) .nil)) .nil), has1_c d h c⟩) rfl w.cases hw
  obtain ⟨on, tk, sq, cs⟩ := w
  dsimp only at c1 hw ⊢
  generalize ixF (isC d h) cs = z at c1 ⊢
  by_cases hz : 0 ≤ z
  all_goals
    cases on
    all_goals
      refine Cd.enter' Try.func120 rfl Try.ntmps120 rfl ?_
      repeat' (first | ((with_reducible refine kAL ?_); (first | refine A_box rfl rfl 43 _ rfl rfl (.push qL qN) ?_ | refine A_box rfl rfl 3 _ rfl rfl (.push qL qN) ?_ | refine A_as rfl rfl rfl rfl ?_ | refine A_field rfl rfl 43 _ 3 rfl ud43 rfl inf30 (by decide) 3 rfl rfl ?_ | refine A_load rfl rfl 30 _ rfl ud30 rfl rfl rfl rfl ?_ | (refine kL 21 rfl ?_; refine A_fn rfl rfl _ _ _ rfl .nil (.cons rfl (.cons rfl .nil)) ?_) | (refine kL 3338 rfl ?_; refine A_cl rfl rfl Try.func104 rfl (c1) ?_) | refine AL.nil ?_)) | ((with_reducible refine kRG ?_); (first | refine R_mt rfl rfl rfl rfl ?_ | (refine kR 12 rfl ?_; refine R_max rfl rfl _ _ _ rfl rfl rfl ?_) | (refine kR 105 rfl ?_; (first | refine R_cmp (d := 16) rfl rfl (c := true) .geq 3 3 _ _ rfl rfl rfl (by exact congrArg some (decide_eq_true (by (try (dsimp only; fail_if_success done)); omega))) ?_ | refine R_cmp (d := 16) rfl rfl (c := false) .geq 3 3 _ _ rfl rfl rfl (by exact congrArg some (decide_eq_false (by (try (dsimp only; fail_if_success done)); omega))) ?_)) | refine R_field rfl rfl 43 _ 0 rfl ud43 rfl inf4 (by decide) 0 rfl rfl ?_ | refine R_load rfl rfl 4 _ rfl ud4 rfl rfl rfl rfl ?_ | refine R_pick rfl rfl _ _ _ rfl rfl rfl rfl rfl ?_ | refine R_as rfl rfl rfl rfl ?_ | refine RG.nil ⟨by kernel_rfl, ?_⟩ | refine R_skip rfl rfl ?_)) | (with_reducible (first | refine wk0 ?_ | refine wk2 ?_ | refine wk9 ?_ | refine wkb ?_)) | with_reducible refine AW.at_region _ ?_ | refine AW.at_draw 2 mixed 0 [[], [0], [], [2], [2, 3], [2, 3, 4], [2, 3, 4, 5], [2, 3, 4, 5, 6], [0, 1, 2, 3, 4], [0, 1, 2, 3, 4, 5, 6, 7, 8]] qR ?_)
      all_goals first | (exfalso; omega) | (refine Fin.q Try.results120 (.cons (.tmp rfl) (.cons (.tmp rfl) .nil)) [] (hr := (.tupL (.cons (.t ?_) (.cons (.t ?_) .nil)))))
      all_goals first | (simp [*]; done) | skip
theorem firK_next {l : List DWait} {d h : Int} {k : Nat} {a : DWait} (ha : l[k]? = some a) : firK l d h (k + 1) = if a.on = true ∧ 0 ≤ ixF (isC d h) a.cases ∧ ((firK l d h k).ok = false ∨ a.ticket < (l.getD (firK l d h k).th.toNat default).ticket) then ⟨k, ixF (isC d h) a.cases, true⟩ else firK l d h k := by
  rw [firK, getD_of ha]
def fir (l : List DWait) (d h : Int) : FS := firK l d h l.length
set_option maxHeartbeats 8000000 in
theorem first_c (l : List DWait) (d h : Int) (hl : okW l) : Cd Try.prog 111 [.ln (l.map tWt), i64 d, i64 h] (.tup [i64 (fir l d h).th, i64 (fir l d h).wh, bo (fir l d h).ok]) [] := by
  have h0 := hl.1
  have h1 : (l.map tWt).length = l.length := List.length_map _
  first | refine Cd.enter' Try.func111 rfl Try.ntmps111 rfl ?_ | refine Cio.enter' Try.func111 rfl Try.ntmps111 rfl qM ?_ | refine C.enter' Try.func111 rfl Try.ntmps111 rfl qM ?_
  repeat' (first | ((with_reducible refine kAL ?_); (first | refine A_as rfl rfl rfl rfl ?_ | (refine kL 0 rfl ?_; (first | refine A_mt rfl rfl rfl rfl ?_ | refine A_move rfl rfl _ (.inl rfl) (y := .ln _) rfl ?_)) | refine A_len rfl rfl 26 _ rfl ud26 rfl ?_ | refine AL.nil ?_)) | (with_reducible (first | refine wk0 ?_ | refine wk1 ?_ | refine wk2 ?_)) | with_reducible refine AW.at_region _ ?_)
  refine AW.loopP (fun (x : Nat × FS) => x.1 ≤ l.length ∧ x.2 = firK l d h x.1) (fun (x : Nat × FS) => (pu (pu (pu (pu (pu (pu (pu (pu (pu (fun _ => .any) 0 (.ln (l.map tWt))) 1 (i64 d)) 2 (i64 h)) 6 (i64 x.2.th)) 7 (i64 x.2.wh)) 8 (bo x.2.ok)) 13 (.ln (l.map tWt))) 14 (i64 (l.map tWt).length)) 15 (i64 x.1))) (fun (x : Nat × FS) => []) (fun (x : Nat × FS) => l.length - x.1) ((0, ⟨0, 0, false⟩)) ?_ ?_ ?_
  · exact ⟨Nat.zero_le _, rfl⟩
  · exact Wk.cq 0
  · rintro ⟨q, s⟩ ⟨h2, h3⟩
    dsimp only at h2 h3 ⊢
    by_cases hq : q < l.length
    · obtain ⟨a, ha⟩ : ∃ a, l[q]? = some a := ⟨_, List.getElem?_eq_getElem hq⟩
      have hn := firK_next (d := d) (h := h) ha
      have hk := firK_ok l d h q
      rw [← h3] at hn hk
      have cH := whas_c a d h (by have := hl.at ha; omega)
      obtain ⟨th, wh, ok⟩ := s
      dsimp only at hn hk ⊢
      by_cases hc1 : a.on = true ∧ 0 ≤ ixF (isC d h) a.cases
      · rw [show (decide (0 ≤ ixF (isC d h) a.cases) && a.on) = true by rw [decide_eq_true hc1.2, hc1.1]; rfl, Int.max_eq_left hc1.2] at cH
        cases ok
        · rw [if_pos ⟨hc1.1, hc1.2, .inl rfl⟩] at hn
          repeat' (first | ((with_reducible refine kAL ?_); (first | refine A_as rfl rfl rfl rfl ?_ | (refine kL 0 rfl ?_; (first | refine A_mt rfl rfl rfl rfl ?_ | refine A_move rfl rfl _ (.inl rfl) (y := .tup _) rfl ?_)) | (refine kL 105 rfl ?_; (first | refine A_cmp (d := 16) rfl rfl (c := true) .lss 3 3 _ _ rfl rfl rfl (by exact congrArg some (decide_eq_true (by (try (dsimp only; fail_if_success done)); omega))) ?_ | refine A_add rfl rfl 3 3 _ _ rfl rfl rfl (by exact wi) ?_)) | (refine kL 838 rfl ?_; refine A_idx rfl rfl 26 _ _ rfl ud26 inf43 (by decide) (by exact .inl rfl) rfl (by omega) _ (by with_reducible exact Int.toNat_natCast _) (by exact map_get (by assumption)) rfl (cs' := [_, _, _, _]) rfl ?_) | (refine kL 1378 rfl ?_; (first | refine A_load_agg rfl rfl 43 _ rfl ud43 rfl inf43 rfl rfl (us' := [_, _, _, _]) rfl rfl ?_ | refine A_load_lp_agg rfl rfl 43 _ rfl ud43 rfl inf43 rfl (us' := [_, _, _, _]) rfl rfl ?_)) | refine A_alloc rfl rfl 43 rfl inf43 (cs := [.t (.v (.bool false)), .t (.v (.int .i64 0)), .t (.v (.int .i64 0)), AV.nl]) rfl (.push qL qN) ?_ | refine A_store rfl rfl 43 _ _ rfl inf43 rfl rfl rfl rfl (Nat.le_of_ble_eq_true rfl) qN qN ?_ | (refine kL 3850 rfl ?_; refine A_cl rfl rfl Try.func120 rfl (cH) ?_) | (refine kL 18 rfl ?_; (first | refine A_extract rfl rfl _ 0 rfl rfl rfl ?_ | refine A_extract rfl rfl _ 1 rfl rfl rfl ?_)) | refine AL.nil ?_)) | ((with_reducible refine kRG ?_); (first | refine R_mt rfl rfl rfl rfl ?_ | refine R_not rfl rfl _ _ rfl rfl ?_ | refine R_pick rfl rfl _ _ _ rfl rfl rfl rfl rfl ?_ | refine RG.nil ⟨by kernel_rfl, ?_⟩ | refine R_skip rfl rfl ?_)) | (with_reducible (first | refine wk0 ?_ | refine wk1 ?_ | refine wk2 ?_ | refine wk5 ?_ | refine wkd ?_)) | refine kct rfl ?_ | with_reducible refine AW.at_region _ ?_ | refine AW.at_draw 5 mixed 0 [[], [0], [0, 1], [0, 1, 2], [0, 1, 2, 3], [0, 1, 2, 3, 4], [0, 1, 2, 3, 4, 5], [0, 1, 2, 3, 4], [0, 1, 2, 3, 4], [0, 1, 2, 3, 4, 7, 8], [0, 1, 2, 3, 4, 7, 8, 9], [0, 1, 2, 3, 4, 7, 8, 9, 10], [0, 1, 2, 3, 4, 5, 6, 7, 8, 9, 10, 11], [0, 1, 2, 3, 4, 5, 6, 7, 8, 9, 10, 11, 12], [0, 1, 2, 3, 4, 5, 6, 7, 8, 9, 10, 11, 12, 13]] qR ?_)
          all_goals first | (exfalso; omega) | (refine ⟨(q + 1, ⟨q, ixF (isC d h) a.cases, true⟩), ⟨by dsimp only; omega, hn.symm⟩, by dsimp only; omega, ?_⟩; (exact Wk.cq 0); done)
        · rcases hk with ⟨hk, _⟩ | ⟨_, t, rfl, ht, ho, hw, hwn⟩
          · cases hk
          · obtain ⟨b, hb⟩ : ∃ b, l[t]? = some b := ⟨_, List.getElem?_eq_getElem (by omega)⟩
            rw [Int.toNat_natCast, getD_of hb] at hn
            by_cases htk : a.ticket < b.ticket
            · rw [if_pos ⟨hc1.1, hc1.2, .inr htk⟩] at hn
              repeat' (first | ((with_reducible refine kAL ?_); (first | refine A_as rfl rfl rfl rfl ?_ | (refine kL 0 rfl ?_; (first | refine A_mt rfl rfl rfl rfl ?_ | refine A_move rfl rfl _ (.inl rfl) (y := .tup _) rfl ?_)) | (refine kL 105 rfl ?_; (first | refine A_cmp (d := 16) rfl rfl (c := true) .lss 3 3 _ _ rfl rfl rfl (by exact congrArg some (decide_eq_true (by (try (dsimp only; fail_if_success done)); omega))) ?_ | refine A_add rfl rfl 3 3 _ _ rfl rfl rfl (by exact wi) ?_)) | (refine kL 838 rfl ?_; refine A_idx rfl rfl 26 _ _ rfl ud26 inf43 (by decide) (by exact .inl rfl) rfl (by omega) _ (by with_reducible exact Int.toNat_natCast _) (by exact map_get (by assumption)) rfl (cs' := [_, _, _, _]) rfl ?_) | (refine kL 1378 rfl ?_; (first | refine A_load_agg rfl rfl 43 _ rfl ud43 rfl inf43 rfl rfl (us' := [_, _, _, _]) rfl rfl ?_ | refine A_load_lp_agg rfl rfl 43 _ rfl ud43 rfl inf43 rfl (us' := [_, _, _, _]) rfl rfl ?_)) | refine A_alloc rfl rfl 43 rfl inf43 (cs := [.t (.v (.bool false)), .t (.v (.int .i64 0)), .t (.v (.int .i64 0)), AV.nl]) rfl (.push qL qN) ?_ | refine A_store rfl rfl 43 _ _ rfl inf43 rfl rfl rfl rfl (Nat.le_of_ble_eq_true rfl) qN qN ?_ | (refine kL 3850 rfl ?_; refine A_cl rfl rfl Try.func120 rfl (cH) ?_) | (refine kL 18 rfl ?_; (first | refine A_extract rfl rfl _ 0 rfl rfl rfl ?_ | refine A_extract rfl rfl _ 1 rfl rfl rfl ?_)) | refine AL.nil ?_)) | ((with_reducible refine kRG ?_); (first | (refine kR 0 rfl ?_; (first | refine R_mt rfl rfl rfl rfl ?_ | refine R_move rfl rfl _ (.inl rfl) (y := .ln _) rfl ?_)) | refine R_not rfl rfl _ _ rfl rfl ?_ | refine R_field rfl rfl 43 _ 1 rfl ud43 rfl inf3 (by decide) 1 rfl rfl ?_ | (refine kR 98 rfl ?_; (first | refine R_load rfl rfl 3 _ rfl ud3 rfl rfl rfl rfl ?_ | refine R_load_lp rfl rfl 3 _ rfl ud3 rfl rfl rfl ?_)) | (refine kR 838 rfl ?_; refine R_idx rfl rfl 26 _ _ rfl ud26 inf43 (by decide) (by exact .inl rfl) rfl (by omega) _ (by with_reducible exact Int.toNat_natCast _) (by exact map_get (by assumption)) rfl (cs' := [_, _, _, _]) rfl ?_) | refine R_cmp (d := 39) rfl rfl (c := true) .lss 3 3 _ _ rfl rfl rfl (by exact congrArg some (decide_eq_true (by (try (dsimp only; fail_if_success done)); omega))) ?_ | refine R_pick rfl rfl _ _ _ rfl rfl rfl rfl rfl ?_ | refine RG.nil ⟨by kernel_rfl, ?_⟩)) | (with_reducible (first | refine wk0 ?_ | refine wk1 ?_ | refine wk2 ?_ | refine wk5 ?_ | refine wkd ?_)) | refine kct rfl ?_ | with_reducible refine AW.at_region _ ?_ | refine AW.at_draw 5 mixed 0 [[], [0], [0, 1], [0, 1, 2], [0, 1, 2, 3], [0, 1, 2, 3, 4], [0, 1, 2, 3, 4, 5], [0, 1, 2, 3, 4], [0, 1, 2, 3, 4], [0, 1, 2, 3, 4, 7, 8], [0, 1, 2, 3, 4, 7, 8, 9], [0, 1, 2, 3, 4, 7, 8, 9, 10], [0, 1, 2, 3, 4, 5, 6, 7, 8, 9, 10, 11], [0, 1, 2, 3, 4, 5, 6, 7, 8, 9, 10, 11, 12], [0, 1, 2, 3, 4, 5, 6, 7, 8, 9, 10, 11, 12, 13]] qR ?_)
              all_goals first | (exfalso; omega) | (refine ⟨(q + 1, ⟨q, ixF (isC d h) a.cases, true⟩), ⟨by dsimp only; omega, hn.symm⟩, by dsimp only; omega, ?_⟩; (exact Wk.cq 0); done)
            · rw [if_neg (fun k => by have := k.2.2; simp [htk] at this)] at hn
              repeat' (first | ((with_reducible refine kAL ?_); (first | refine A_as rfl rfl rfl rfl ?_ | (refine kL 0 rfl ?_; (first | refine A_mt rfl rfl rfl rfl ?_ | refine A_move rfl rfl _ (.inl rfl) (y := .tup _) rfl ?_)) | (refine kL 105 rfl ?_; (first | refine A_cmp (d := 16) rfl rfl (c := true) .lss 3 3 _ _ rfl rfl rfl (by exact congrArg some (decide_eq_true (by (try (dsimp only; fail_if_success done)); omega))) ?_ | refine A_add rfl rfl 3 3 _ _ rfl rfl rfl (by exact wi) ?_)) | (refine kL 838 rfl ?_; refine A_idx rfl rfl 26 _ _ rfl ud26 inf43 (by decide) (by exact .inl rfl) rfl (by omega) _ (by with_reducible exact Int.toNat_natCast _) (by exact map_get (by assumption)) rfl (cs' := [_, _, _, _]) rfl ?_) | (refine kL 1378 rfl ?_; (first | refine A_load_agg rfl rfl 43 _ rfl ud43 rfl inf43 rfl rfl (us' := [_, _, _, _]) rfl rfl ?_ | refine A_load_lp_agg rfl rfl 43 _ rfl ud43 rfl inf43 rfl (us' := [_, _, _, _]) rfl rfl ?_)) | refine A_alloc rfl rfl 43 rfl inf43 (cs := [.t (.v (.bool false)), .t (.v (.int .i64 0)), .t (.v (.int .i64 0)), AV.nl]) rfl (.push qL qN) ?_ | refine A_store rfl rfl 43 _ _ rfl inf43 rfl rfl rfl rfl (Nat.le_of_ble_eq_true rfl) qN qN ?_ | (refine kL 3850 rfl ?_; refine A_cl rfl rfl Try.func120 rfl (cH) ?_) | (refine kL 18 rfl ?_; (first | refine A_extract rfl rfl _ 0 rfl rfl rfl ?_ | refine A_extract rfl rfl _ 1 rfl rfl rfl ?_)) | refine AL.nil ?_)) | ((with_reducible refine kRG ?_); (first | (refine kR 0 rfl ?_; (first | refine R_mt rfl rfl rfl rfl ?_ | refine R_move rfl rfl _ (.inl rfl) (y := .ln _) rfl ?_)) | refine R_not rfl rfl _ _ rfl rfl ?_ | refine R_field rfl rfl 43 _ 1 rfl ud43 rfl inf3 (by decide) 1 rfl rfl ?_ | (refine kR 98 rfl ?_; (first | refine R_load rfl rfl 3 _ rfl ud3 rfl rfl rfl rfl ?_ | refine R_load_lp rfl rfl 3 _ rfl ud3 rfl rfl rfl ?_)) | (refine kR 838 rfl ?_; refine R_idx rfl rfl 26 _ _ rfl ud26 inf43 (by decide) (by exact .inl rfl) rfl (by omega) _ (by with_reducible exact Int.toNat_natCast _) (by exact map_get (by assumption)) rfl (cs' := [_, _, _, _]) rfl ?_) | refine R_cmp (d := 39) rfl rfl (c := false) .lss 3 3 _ _ rfl rfl rfl (by exact congrArg some (decide_eq_false (by (try (dsimp only; fail_if_success done)); omega))) ?_ | refine R_pick rfl rfl _ _ _ rfl rfl rfl rfl rfl ?_ | refine RG.nil ⟨by kernel_rfl, ?_⟩)) | (with_reducible (first | refine wk0 ?_ | refine wk1 ?_ | refine wk2 ?_ | refine wk5 ?_ | refine wkd ?_)) | refine kct rfl ?_ | refine kcf rfl ?_ | with_reducible refine AW.at_region _ ?_ | refine AW.at_draw 5 mixed 0 [[], [0], [0, 1], [0, 1, 2], [0, 1, 2, 3], [0, 1, 2, 3, 4], [0, 1, 2, 3, 4, 5], [0, 1, 2, 3, 4], [0, 1, 2, 3, 4], [0, 1, 2, 3, 4, 7, 8], [0, 1, 2, 3, 4, 7, 8, 9], [0, 1, 2, 3, 4, 7, 8, 9, 10], [0, 1, 2, 3, 4, 5, 6, 7, 8, 9, 10, 11], [0, 1, 2, 3, 4, 5, 6, 7, 8, 9, 10, 11, 12], [0, 1, 2, 3, 4, 5, 6, 7, 8, 9, 10, 11, 12, 13]] qR ?_)
              all_goals first | (exfalso; omega) | (refine ⟨(q + 1, ⟨t, wh, true⟩), ⟨by dsimp only; omega, hn.symm⟩, by dsimp only; omega, ?_⟩; (exact Wk.cq 0); done)
      · rw [if_neg (fun k => hc1 ⟨k.1, k.2.1⟩)] at hn
        rw [show (decide (0 ≤ ixF (isC d h) a.cases) && a.on) = false by
          cases ha2 : a.on
          · simp
          · rw [decide_eq_false (fun k => hc1 ⟨ha2, k⟩)]; rfl] at cH
        cases ok
        all_goals
          repeat' (first | ((with_reducible refine kAL ?_); (first | refine A_as rfl rfl rfl rfl ?_ | (refine kL 0 rfl ?_; (first | refine A_mt rfl rfl rfl rfl ?_ | refine A_move rfl rfl _ (.inl rfl) (y := .tup _) rfl ?_)) | (refine kL 105 rfl ?_; (first | refine A_cmp (d := 16) rfl rfl (c := true) .lss 3 3 _ _ rfl rfl rfl (by exact congrArg some (decide_eq_true (by (try (dsimp only; fail_if_success done)); omega))) ?_ | refine A_add rfl rfl 3 3 _ _ rfl rfl rfl (by exact wi) ?_)) | (refine kL 838 rfl ?_; refine A_idx rfl rfl 26 _ _ rfl ud26 inf43 (by decide) (by exact .inl rfl) rfl (by omega) _ (by with_reducible exact Int.toNat_natCast _) (by exact map_get (by assumption)) rfl (cs' := [_, _, _, _]) rfl ?_) | (refine kL 1378 rfl ?_; (first | refine A_load_agg rfl rfl 43 _ rfl ud43 rfl inf43 rfl rfl (us' := [_, _, _, _]) rfl rfl ?_ | refine A_load_lp_agg rfl rfl 43 _ rfl ud43 rfl inf43 rfl (us' := [_, _, _, _]) rfl rfl ?_)) | refine A_alloc rfl rfl 43 rfl inf43 (cs := [.t (.v (.bool false)), .t (.v (.int .i64 0)), .t (.v (.int .i64 0)), AV.nl]) rfl (.push qL qN) ?_ | refine A_store rfl rfl 43 _ _ rfl inf43 rfl rfl rfl rfl (Nat.le_of_ble_eq_true rfl) qN qN ?_ | (refine kL 3850 rfl ?_; refine A_cl rfl rfl Try.func120 rfl (cH) ?_) | (refine kL 18 rfl ?_; (first | refine A_extract rfl rfl _ 0 rfl rfl rfl ?_ | refine A_extract rfl rfl _ 1 rfl rfl rfl ?_)) | refine AL.nil ?_)) | ((with_reducible refine kRG ?_); (first | refine R_mt rfl rfl rfl rfl ?_ | refine R_pick rfl rfl _ _ _ rfl rfl rfl rfl rfl ?_ | refine RG.nil ⟨by kernel_rfl, ?_⟩ | refine R_skip rfl rfl ?_)) | (with_reducible (first | refine wk0 ?_ | refine wk1 ?_ | refine wk2 ?_ | refine wk5 ?_ | refine wkd ?_)) | refine kct rfl ?_ | refine kcf rfl ?_ | with_reducible refine AW.at_region _ ?_ | refine AW.at_draw 5 mixed 0 [[], [0], [0, 1], [0, 1, 2], [0, 1, 2, 3], [0, 1, 2, 3, 4], [0, 1, 2, 3, 4, 5], [0, 1, 2, 3, 4], [0, 1, 2, 3, 4], [0, 1, 2, 3, 4, 7, 8], [0, 1, 2, 3, 4, 7, 8, 9], [0, 1, 2, 3, 4, 7, 8, 9, 10], [0, 1, 2, 3, 4, 5, 6, 7, 8, 9, 10, 11], [0, 1, 2, 3, 4, 5, 6, 7, 8, 9, 10, 11, 12], [0, 1, 2, 3, 4, 5, 6, 7, 8, 9, 10, 11, 12, 13]] qR ?_)
          all_goals first | (exfalso; omega) | (refine ⟨(q + 1, ⟨th, wh, _⟩), ⟨by dsimp only; omega, hn.symm⟩, by dsimp only; omega, ?_⟩; (exact Wk.cq 0); done)
    · have e : q = l.length := by omega
      subst e
      subst h3
      repeat' (first | ((with_reducible refine kAL ?_); (first | refine A_as rfl rfl rfl rfl ?_ | refine A_mt rfl rfl rfl rfl ?_ | refine A_cmp (d := 16) rfl rfl (c := false) .lss 3 3 _ _ rfl rfl rfl (by exact congrArg some (decide_eq_false (by (try (dsimp only; fail_if_success done)); omega))) ?_ | refine AL.nil ?_)) | (with_reducible (first | refine wk0 ?_ | refine wk2 ?_ | refine wk4 ?_ | refine wk7 ?_ | refine wk9 ?_ | refine wkb ?_ | refine wkc ?_)) | refine kcf rfl ?_ | with_reducible refine AW.at_region _ ?_)
      all_goals first | (exfalso; omega) | (exact Fin.q Try.results111 (.cons (.tmp rfl) (.cons (.tmp rfl) (.cons (.tmp rfl) .nil))) [])
def plI (w : DWait) (p : DCase → Bool) : Int := if w.on then ixF p w.cases else -1
def isP (d h : Int) (c : DCase) : Bool := decide (c.handle = h ∧ (d = 0 ∨ c.dir = d))
set_option maxHeartbeats 8000000 in
theorem place_c (w : DWait) (d h : Int) (hw : w.cases.length ≤ 1152921504606846976) : Cd Try.prog 116 [.agg [bo w.on, i64 w.ticket, i64 w.seq, .ln (w.cases.map tCs)], i64 d, i64 h] (i64 (plI w (isP d h))) [] := by
  obtain ⟨on, tk, sq, cs⟩ := w
  dsimp only at hw ⊢
  have h1 : (cs.map tCs).length = cs.length := List.length_map _
  refine Cd.enter' Try.func116 rfl Try.ntmps116 rfl ?_
  repeat' (first | ((with_reducible refine kAL ?_); (first | refine A_box rfl rfl 43 _ rfl rfl (.push qL qN) ?_ | refine A_as rfl rfl rfl rfl ?_ | refine A_field rfl rfl 43 _ 3 rfl ud43 rfl inf30 (by decide) 3 rfl rfl ?_ | refine A_load rfl rfl 30 _ rfl ud30 rfl rfl rfl rfl ?_ | refine A_len rfl rfl 30 _ rfl ud30 rfl ?_ | refine A_mt rfl rfl rfl rfl ?_ | refine AL.nil ?_)) | with_reducible refine AW.at_region _ ?_ | (with_reducible (first | refine wk0 ?_ | refine wk1 ?_ | refine wk2 ?_)))
  refine AW.loopP (fun (q : Nat) => q ≤ cs.length ∧ ∀ j, j < q → on = true → ∀ b, cs[j]? = some b → isP d h b = false) (fun (q : Nat) => (pu (pu (pu (pu (pu (pu (fun _ => .any) 1 (i64 d)) 2 (i64 h)) 3 (.ptr 0 0)) 10 (.ln (cs.map tCs))) 11 (i64 (cs.map tCs).length)) 12 (i64 q))) (fun (q : Nat) => [.box 43 [bo on, i64 tk, i64 sq, .ln (cs.map tCs)]]) (fun (q : Nat) => cs.length - q) (0) ?_ ?_ ?_
  · exact ⟨Nat.zero_le _, fun j hj => by omega⟩
  · exact Wk.cq 1
  · rintro q ⟨h2, h3⟩
    by_cases hq : q < cs.length
    · obtain ⟨⟨a1, a2, a3⟩, ha⟩ : ∃ a, cs[q]? = some a := ⟨_, List.getElem?_eq_getElem hq⟩
      cases on
      · repeat' (first | ((with_reducible refine kAL ?_); (first | refine A_as rfl rfl rfl rfl ?_ | refine A_field rfl rfl 43 _ 0 rfl ud43 rfl inf4 (by decide) 0 rfl rfl ?_ | refine A_mt rfl rfl rfl rfl ?_ | (refine kL 105 rfl ?_; (first | refine A_cmp (d := 13) rfl rfl (c := true) .lss 3 3 _ _ rfl rfl rfl (by exact congrArg some (decide_eq_true (by (try (dsimp only; fail_if_success done)); omega))) ?_ | refine A_add rfl rfl 3 3 _ _ rfl rfl rfl (by first | exact wi | rfl) ?_)) | (refine kL 966 rfl ?_; refine A_idx rfl rfl 30 _ _ rfl ud30 inf45 (by decide) (by exact .inl rfl) rfl (by omega) _ (by with_reducible exact Int.toNat_natCast _) (by exact map_get (by assumption)) rfl (cs' := [_, _, _]) rfl ?_) | refine A_load_lp_agg rfl rfl 45 _ rfl ud45 rfl inf45 rfl (us' := [_, _, _]) rfl rfl ?_ | refine A_alloc rfl rfl 45 rfl inf45 (cs := [.t (.v (.int .i64 0)), .t (.v (.int .i64 0)), .t (.v (.int .i64 0))]) rfl (.push qL qN) ?_ | refine A_store rfl rfl 45 _ _ rfl inf45 rfl rfl rfl rfl (Nat.le_of_ble_eq_true rfl) qN qN ?_ | refine A_load rfl rfl 4 _ rfl ud4 rfl rfl rfl rfl ?_ | refine A_pick rfl rfl _ _ _ rfl rfl rfl rfl rfl ?_ | refine AL.nil ?_ | refine AL.skip rfl rfl ?_)) | with_reducible refine AW.at_region _ ?_ | (with_reducible (first | refine wk0 ?_ | refine wk1 ?_ | refine wk2 ?_ | refine wk5 ?_ | refine wkd ?_)) | refine kct rfl ?_ | refine kcf rfl ?_)
        all_goals first | (exfalso; omega) | skip
        refine ⟨q + 1, ⟨by omega, fun j hj ho => by cases ho⟩, by omega, ?_⟩
        exact Wk.cq 1
      · by_cases hp : a2 = h ∧ (d = 0 ∨ a1 = d)
        · rw [show plI ⟨true, tk, sq, cs⟩ (isP d h) = q from ixF_at _ cs q _ (fun j hj b hb => h3 j hj rfl b hb) ha (by simp only [isP]; exact decide_eq_true hp)]
          by_cases p1 : d = 0
          all_goals
            repeat' (first | ((with_reducible refine kAL ?_); (first | refine A_as rfl rfl rfl rfl ?_ | refine A_field rfl rfl 43 _ 0 rfl ud43 rfl inf4 (by decide) 0 rfl rfl ?_ | refine A_mt rfl rfl rfl rfl ?_ | (refine kL 105 rfl ?_; (first | refine A_cmp (d := 13) rfl rfl (c := true) .lss 3 3 _ _ rfl rfl rfl (by exact congrArg some (decide_eq_true (by (try (dsimp only; fail_if_success done)); omega))) ?_ | refine A_cmp (d := 23) rfl rfl (c := true) .eql 3 3 _ _ rfl rfl rfl (by exact congrArg some (decide_eq_true (by (try (dsimp only; fail_if_success done)); omega))) ?_ | refine A_cmp (d := 27) rfl rfl (c := true) .eql 3 3 _ _ rfl rfl rfl (by exact congrArg some (decide_eq_true (by (try (dsimp only; fail_if_success done)); omega))) ?_ | refine A_cmp (d := 27) rfl rfl (c := false) .eql 3 3 _ _ rfl rfl rfl (by exact congrArg some (decide_eq_false (by (try (dsimp only; fail_if_success done)); omega))) ?_ | refine A_cmp (d := 32) rfl rfl (c := true) .eql 3 3 _ _ rfl rfl rfl (by exact congrArg some (decide_eq_true (by (try (dsimp only; fail_if_success done)); omega))) ?_)) | (refine kL 966 rfl ?_; refine A_idx rfl rfl 30 _ _ rfl ud30 inf45 (by decide) (by exact .inl rfl) rfl (by omega) _ (by with_reducible exact Int.toNat_natCast _) (by exact map_get (by assumption)) rfl (cs' := [_, _, _]) rfl ?_) | refine A_load_lp_agg rfl rfl 45 _ rfl ud45 rfl inf45 rfl (us' := [_, _, _]) rfl rfl ?_ | refine A_alloc rfl rfl 45 rfl inf45 (cs := [.t (.v (.int .i64 0)), .t (.v (.int .i64 0)), .t (.v (.int .i64 0))]) rfl (.push qL qN) ?_ | refine A_store rfl rfl 45 _ _ rfl inf45 rfl rfl rfl rfl (Nat.le_of_ble_eq_true rfl) qN qN ?_ | refine A_load rfl rfl 4 _ rfl ud4 rfl rfl rfl rfl ?_ | (refine kL 1444 rfl ?_; (first | refine A_field rfl rfl 45 _ 1 rfl ud45 rfl inf3 (by decide) 1 rfl rfl ?_ | refine A_field rfl rfl 45 _ 0 rfl ud45 rfl inf3 (by decide) 0 rfl rfl ?_)) | refine A_load rfl rfl 3 _ rfl ud3 rfl rfl rfl rfl ?_ | refine A_pick rfl rfl _ _ _ rfl rfl rfl rfl rfl ?_ | refine AL.nil ?_ | refine AL.skip rfl rfl ?_)) | with_reducible refine AW.at_region _ ?_ | (with_reducible (first | refine wk0 ?_ | refine wk1 ?_ | refine wk2 ?_ | refine wk3 ?_ | refine wk6 ?_ | refine wk9 ?_ | refine wkb ?_ | refine wkd ?_)) | refine kct rfl ?_)
            all_goals first | (exfalso; omega) | (exact Fin.q Try.results116 (.cons (.tmp rfl) .nil) [])
        · by_cases p1 : d = 0 <;> by_cases p2 : a2 = h
          all_goals
            repeat' (first | ((with_reducible refine kAL ?_); (first | refine A_as rfl rfl rfl rfl ?_ | refine A_field rfl rfl 43 _ 0 rfl ud43 rfl inf4 (by decide) 0 rfl rfl ?_ | refine A_mt rfl rfl rfl rfl ?_ | (refine kL 105 rfl ?_; (first | refine A_cmp (d := 13) rfl rfl (c := true) .lss 3 3 _ _ rfl rfl rfl (by exact congrArg some (decide_eq_true (by (try (dsimp only; fail_if_success done)); omega))) ?_ | refine A_cmp (d := 23) rfl rfl (c := true) .eql 3 3 _ _ rfl rfl rfl (by exact congrArg some (decide_eq_true (by (try (dsimp only; fail_if_success done)); omega))) ?_ | refine A_cmp (d := 23) rfl rfl (c := false) .eql 3 3 _ _ rfl rfl rfl (by exact congrArg some (decide_eq_false (by (try (dsimp only; fail_if_success done)); omega))) ?_ | refine A_cmp (d := 27) rfl rfl (c := true) .eql 3 3 _ _ rfl rfl rfl (by exact congrArg some (decide_eq_true (by (try (dsimp only; fail_if_success done)); omega))) ?_ | refine A_cmp (d := 27) rfl rfl (c := false) .eql 3 3 _ _ rfl rfl rfl (by exact congrArg some (decide_eq_false (by (try (dsimp only; fail_if_success done)); omega))) ?_ | refine A_cmp (d := 32) rfl rfl (c := false) .eql 3 3 _ _ rfl rfl rfl (by exact congrArg some (decide_eq_false (by (try (dsimp only; fail_if_success done)); omega))) ?_ | refine A_add rfl rfl 3 3 _ _ rfl rfl rfl (by first | exact wi | rfl) ?_)) | (refine kL 966 rfl ?_; refine A_idx rfl rfl 30 _ _ rfl ud30 inf45 (by decide) (by exact .inl rfl) rfl (by omega) _ (by with_reducible exact Int.toNat_natCast _) (by exact map_get (by assumption)) rfl (cs' := [_, _, _]) rfl ?_) | refine A_load_lp_agg rfl rfl 45 _ rfl ud45 rfl inf45 rfl (us' := [_, _, _]) rfl rfl ?_ | refine A_alloc rfl rfl 45 rfl inf45 (cs := [.t (.v (.int .i64 0)), .t (.v (.int .i64 0)), .t (.v (.int .i64 0))]) rfl (.push qL qN) ?_ | refine A_store rfl rfl 45 _ _ rfl inf45 rfl rfl rfl rfl (Nat.le_of_ble_eq_true rfl) qN qN ?_ | refine A_load rfl rfl 4 _ rfl ud4 rfl rfl rfl rfl ?_ | (refine kL 1444 rfl ?_; (first | refine A_field rfl rfl 45 _ 1 rfl ud45 rfl inf3 (by decide) 1 rfl rfl ?_ | refine A_field rfl rfl 45 _ 0 rfl ud45 rfl inf3 (by decide) 0 rfl rfl ?_)) | refine A_load rfl rfl 3 _ rfl ud3 rfl rfl rfl rfl ?_ | refine A_pick rfl rfl _ _ _ rfl rfl rfl rfl rfl ?_ | refine AL.nil ?_ | refine AL.skip rfl rfl ?_)) | with_reducible refine AW.at_region _ ?_ | (with_reducible (first | refine wk0 ?_ | refine wk1 ?_ | refine wk2 ?_ | refine wk3 ?_ | refine wk5 ?_ | refine wk6 ?_ | refine wk9 ?_ | refine wkb ?_ | refine wkd ?_)) | refine kct rfl ?_ | refine kcf rfl ?_)
            all_goals first | (exfalso; omega) | skip
            all_goals
              refine ⟨q + 1, ⟨by omega, fun j hj ho b hb => ?_⟩, by omega, ?_⟩
              · by_cases e : j = q
                · subst e; rw [ha] at hb; cases hb; exact decide_eq_false hp
                · exact h3 j (by omega) ho b hb
              · exact Wk.cq 1
    · rw [show plI ⟨on, tk, sq, cs⟩ (isP d h) = -1 by
        unfold plI
        cases on
        · rfl
        · exact ixF_none _ cs fun j b hb => h3 j (by have := get_lt hb; omega) rfl b hb]
      repeat' (first | ((with_reducible refine kAL ?_); (first | refine A_as rfl rfl rfl rfl ?_ | refine A_cmp (d := 13) rfl rfl (c := false) .lss 3 3 _ _ rfl rfl rfl (by exact congrArg some (decide_eq_false (by (try (dsimp only; fail_if_success done)); omega))) ?_ | refine AL.nil ?_)) | with_reducible refine AW.at_region _ ?_ | (with_reducible (first | refine wk0 ?_ | refine wk2 ?_ | refine wk4 ?_ | refine wk7 ?_ | refine wk9 ?_ | refine wkb ?_ | refine wkc ?_)) | refine kcf rfl ?_)
      all_goals first | (exfalso; omega) | (exact Fin.q Try.results116 (.cons (.tmp rfl) .nil) [])
set_option maxHeartbeats 8000000 in
theorem zero_c (w : DWait) (h : Int) (hw : w.cases.length ≤ 1152921504606846976) : Cd Try.prog 117 [.agg [bo w.on, i64 w.ticket, i64 w.seq, .ln (w.cases.map tCs)], i64 h] (i64 (plI w (isC 0 h))) [] := by
  obtain ⟨on, tk, sq, cs⟩ := w
  dsimp only at hw ⊢
  have h1 : (cs.map tCs).length = cs.length := List.length_map _
  refine Cd.enter' Try.func117 rfl Try.ntmps117 rfl ?_
  repeat' (first | ((with_reducible refine kAL ?_); (first | refine A_box rfl rfl 43 _ rfl rfl (.push qL qN) ?_ | refine A_as rfl rfl rfl rfl ?_ | refine A_field rfl rfl 43 _ 3 rfl ud43 rfl inf30 (by decide) 3 rfl rfl ?_ | refine A_load rfl rfl 30 _ rfl ud30 rfl rfl rfl rfl ?_ | refine A_len rfl rfl 30 _ rfl ud30 rfl ?_ | refine A_mt rfl rfl rfl rfl ?_ | refine AL.nil ?_)) | with_reducible refine AW.at_region _ ?_ | (with_reducible (first | refine wk0 ?_ | refine wk1 ?_ | refine wk2 ?_)))
  refine AW.loopP (fun (q : Nat) => q ≤ cs.length ∧ ∀ j, j < q → on = true → ∀ b, cs[j]? = some b → isC 0 h b = false) (fun (q : Nat) => (pu (pu (pu (pu (pu (fun _ => .any) 1 (i64 h)) 2 (.ptr 0 0)) 8 (.ln (cs.map tCs))) 9 (i64 (cs.map tCs).length)) 10 (i64 q))) (fun (q : Nat) => [.box 43 [bo on, i64 tk, i64 sq, .ln (cs.map tCs)]]) (fun (q : Nat) => cs.length - q) (0) ?_ ?_ ?_
  · exact ⟨Nat.zero_le _, fun j hj => by omega⟩
  · exact Wk.cq 1
  · rintro q ⟨h2, h3⟩
    by_cases hq : q < cs.length
    · obtain ⟨⟨a1, a2, a3⟩, ha⟩ : ∃ a, cs[q]? = some a := ⟨_, List.getElem?_eq_getElem hq⟩
      cases on
      · repeat' (first | ((with_reducible refine kAL ?_); (first | refine A_as rfl rfl rfl rfl ?_ | refine A_field rfl rfl 43 _ 0 rfl ud43 rfl inf4 (by decide) 0 rfl rfl ?_ | refine A_mt rfl rfl rfl rfl ?_ | (refine kL 105 rfl ?_; (first | refine A_cmp (d := 11) rfl rfl (c := true) .lss 3 3 _ _ rfl rfl rfl (by exact congrArg some (decide_eq_true (by (try (dsimp only; fail_if_success done)); omega))) ?_ | refine A_add rfl rfl 3 3 _ _ rfl rfl rfl (by first | exact wi | rfl) ?_)) | (refine kL 966 rfl ?_; refine A_idx rfl rfl 30 _ _ rfl ud30 inf45 (by decide) (by exact .inl rfl) rfl (by omega) _ (by with_reducible exact Int.toNat_natCast _) (by exact map_get (by assumption)) rfl (cs' := [_, _, _]) rfl ?_) | refine A_load_lp_agg rfl rfl 45 _ rfl ud45 rfl inf45 rfl (us' := [_, _, _]) rfl rfl ?_ | refine A_alloc rfl rfl 45 rfl inf45 (cs := [.t (.v (.int .i64 0)), .t (.v (.int .i64 0)), .t (.v (.int .i64 0))]) rfl (.push qL qN) ?_ | refine A_store rfl rfl 45 _ _ rfl inf45 rfl rfl rfl rfl (Nat.le_of_ble_eq_true rfl) qN qN ?_ | refine A_load rfl rfl 4 _ rfl ud4 rfl rfl rfl rfl ?_ | refine A_pick rfl rfl _ _ _ rfl rfl rfl rfl rfl ?_ | refine AL.nil ?_ | refine AL.skip rfl rfl ?_)) | with_reducible refine AW.at_region _ ?_ | (with_reducible (first | refine wk0 ?_ | refine wk1 ?_ | refine wk2 ?_ | refine wk5 ?_ | refine wkd ?_)) | refine kct rfl ?_ | refine kcf rfl ?_)
        all_goals first | (exfalso; omega) | skip
        refine ⟨q + 1, ⟨by omega, fun j hj ho => by cases ho⟩, by omega, ?_⟩
        exact Wk.cq 1
      · by_cases hp : a1 = 0 ∧ a2 = h
        · rw [show plI ⟨true, tk, sq, cs⟩ (isC 0 h) = q from ixF_at _ cs q _ (fun j hj b hb => h3 j hj rfl b hb) ha (by simp only [isC]; exact decide_eq_true hp)]
          repeat' (first | ((with_reducible refine kAL ?_); (first | refine A_as rfl rfl rfl rfl ?_ | refine A_field rfl rfl 43 _ 0 rfl ud43 rfl inf4 (by decide) 0 rfl rfl ?_ | refine A_mt rfl rfl rfl rfl ?_ | (refine kL 105 rfl ?_; (first | refine A_cmp (d := 11) rfl rfl (c := true) .lss 3 3 _ _ rfl rfl rfl (by exact congrArg some (decide_eq_true (by (try (dsimp only; fail_if_success done)); omega))) ?_ | refine A_cmp (d := 20) rfl rfl (c := true) .eql 3 3 _ _ rfl rfl rfl (by exact congrArg some (decide_eq_true (by (try (dsimp only; fail_if_success done)); omega))) ?_ | refine A_cmp (d := 26) rfl rfl (c := true) .eql 3 3 _ _ rfl rfl rfl (by exact congrArg some (decide_eq_true (by (try (dsimp only; fail_if_success done)); omega))) ?_)) | (refine kL 966 rfl ?_; refine A_idx rfl rfl 30 _ _ rfl ud30 inf45 (by decide) (by exact .inl rfl) rfl (by omega) _ (by with_reducible exact Int.toNat_natCast _) (by exact map_get (by assumption)) rfl (cs' := [_, _, _]) rfl ?_) | refine A_load_lp_agg rfl rfl 45 _ rfl ud45 rfl inf45 rfl (us' := [_, _, _]) rfl rfl ?_ | refine A_alloc rfl rfl 45 rfl inf45 (cs := [.t (.v (.int .i64 0)), .t (.v (.int .i64 0)), .t (.v (.int .i64 0))]) rfl (.push qL qN) ?_ | refine A_store rfl rfl 45 _ _ rfl inf45 rfl rfl rfl rfl (Nat.le_of_ble_eq_true rfl) qN qN ?_ | refine A_load rfl rfl 4 _ rfl ud4 rfl rfl rfl rfl ?_ | (refine kL 1444 rfl ?_; (first | refine A_field rfl rfl 45 _ 0 rfl ud45 rfl inf3 (by decide) 0 rfl rfl ?_ | refine A_field rfl rfl 45 _ 1 rfl ud45 rfl inf3 (by decide) 1 rfl rfl ?_)) | refine A_load rfl rfl 3 _ rfl ud3 rfl rfl rfl rfl ?_ | refine A_pick rfl rfl _ _ _ rfl rfl rfl rfl rfl ?_ | refine AL.nil ?_)) | with_reducible refine AW.at_region _ ?_ | (with_reducible (first | refine wk0 ?_ | refine wk1 ?_ | refine wk2 ?_ | refine wk3 ?_ | refine wk6 ?_ | refine wk9 ?_ | refine wkb ?_ | refine wkd ?_)) | refine kct rfl ?_)
          all_goals first | (exfalso; omega) | (exact Fin.q Try.results117 (.cons (.tmp rfl) .nil) [])
        · by_cases p1 : a1 = 0
          all_goals
            repeat' (first | ((with_reducible refine kAL ?_); (first | refine A_as rfl rfl rfl rfl ?_ | refine A_field rfl rfl 43 _ 0 rfl ud43 rfl inf4 (by decide) 0 rfl rfl ?_ | refine A_mt rfl rfl rfl rfl ?_ | (refine kL 105 rfl ?_; (first | refine A_cmp (d := 11) rfl rfl (c := true) .lss 3 3 _ _ rfl rfl rfl (by exact congrArg some (decide_eq_true (by (try (dsimp only; fail_if_success done)); omega))) ?_ | refine A_cmp (d := 20) rfl rfl (c := true) .eql 3 3 _ _ rfl rfl rfl (by exact congrArg some (decide_eq_true (by (try (dsimp only; fail_if_success done)); omega))) ?_ | refine A_cmp (d := 20) rfl rfl (c := false) .eql 3 3 _ _ rfl rfl rfl (by exact congrArg some (decide_eq_false (by (try (dsimp only; fail_if_success done)); omega))) ?_ | refine A_cmp (d := 26) rfl rfl (c := false) .eql 3 3 _ _ rfl rfl rfl (by exact congrArg some (decide_eq_false (by (try (dsimp only; fail_if_success done)); omega))) ?_ | refine A_add rfl rfl 3 3 _ _ rfl rfl rfl (by first | exact wi | rfl) ?_)) | (refine kL 966 rfl ?_; refine A_idx rfl rfl 30 _ _ rfl ud30 inf45 (by decide) (by exact .inl rfl) rfl (by omega) _ (by with_reducible exact Int.toNat_natCast _) (by exact map_get (by assumption)) rfl (cs' := [_, _, _]) rfl ?_) | refine A_load_lp_agg rfl rfl 45 _ rfl ud45 rfl inf45 rfl (us' := [_, _, _]) rfl rfl ?_ | refine A_alloc rfl rfl 45 rfl inf45 (cs := [.t (.v (.int .i64 0)), .t (.v (.int .i64 0)), .t (.v (.int .i64 0))]) rfl (.push qL qN) ?_ | refine A_store rfl rfl 45 _ _ rfl inf45 rfl rfl rfl rfl (Nat.le_of_ble_eq_true rfl) qN qN ?_ | refine A_load rfl rfl 4 _ rfl ud4 rfl rfl rfl rfl ?_ | (refine kL 1444 rfl ?_; (first | refine A_field rfl rfl 45 _ 0 rfl ud45 rfl inf3 (by decide) 0 rfl rfl ?_ | refine A_field rfl rfl 45 _ 1 rfl ud45 rfl inf3 (by decide) 1 rfl rfl ?_)) | refine A_load rfl rfl 3 _ rfl ud3 rfl rfl rfl rfl ?_ | refine A_pick rfl rfl _ _ _ rfl rfl rfl rfl rfl ?_ | refine AL.nil ?_ | refine AL.skip rfl rfl ?_)) | with_reducible refine AW.at_region _ ?_ | (with_reducible (first | refine wk0 ?_ | refine wk1 ?_ | refine wk2 ?_ | refine wk5 ?_ | refine wkd ?_)) | refine kct rfl ?_ | refine kcf rfl ?_)
            all_goals first | (exfalso; omega) | skip
            all_goals
              refine ⟨q + 1, ⟨by omega, fun j hj ho b hb => ?_⟩, by omega, ?_⟩
              · by_cases e : j = q
                · subst e; rw [ha] at hb; cases hb; exact decide_eq_false hp
                · exact h3 j (by omega) ho b hb
              · exact Wk.cq 1
    · rw [show plI ⟨on, tk, sq, cs⟩ (isC 0 h) = -1 by
        unfold plI
        cases on
        · rfl
        · exact ixF_none _ cs fun j b hb => h3 j (by have := get_lt hb; omega) rfl b hb]
      repeat' (first | ((with_reducible refine kAL ?_); (first | refine A_as rfl rfl rfl rfl ?_ | refine A_cmp (d := 11) rfl rfl (c := false) .lss 3 3 _ _ rfl rfl rfl (by exact congrArg some (decide_eq_false (by (try (dsimp only; fail_if_success done)); omega))) ?_ | refine AL.nil ?_)) | with_reducible refine AW.at_region _ ?_ | (with_reducible (first | refine wk0 ?_ | refine wk2 ?_ | refine wk4 ?_ | refine wk7 ?_ | refine wk9 ?_ | refine wkb ?_ | refine wkc ?_)) | refine kcf rfl ?_)
      all_goals first | (exfalso; omega) | (exact Fin.q Try.results117 (.cons (.tmp rfl) .nil) [])
end Go.Proofs.Ytphcebioiipdpaa

