/- Joined: XLD, XTEnc, XTData, XTCopy, XTArrV, XTMap, XTClip, XTU, XTUI, XTPlain, XTCloneR, XTFifo, XTRef08, XTLaw08, XTSame8, XTIter, XTSegP, XTChunk, XTRa, XTNzB, XTIoS, XTSeg. -/
import Derived.Test.YtmljglphegeilaaKAc
import Derived.Deep.Slices
import Derived.SizedLaws
import Derived.Carry
import Derived.ChangeSame
import Derived.Handed
import Derived.JoinedOf
import Derived.ProofKit
import Derived.OpenShut
import Derived.JoinedCond
import Derived.Deep.CondSized
import Derived.Lib.SmallJoins
import Derived.Laws.IdiomCopy
import Derived.Laws.CopyRow
import Derived.RangeFuncNested
import Derived.RangeFuncBound
import Derived.RangeFuncCalls
import Derived.RangeFuncLeaves
import Derived.Shelf.Abstract
import Derived.Shelf.RegionOpen
import Derived.OwnWalkIn
import Derived.TacticsInMore
import Derived.LoopNIn
import Derived.LoopIn
namespace Go.Proofs.Ytmljglphegeilaa
set_option linter.unusedVariables false
set_option linter.unusedSimpArgs false
set_option linter.unnecessarySimpa false
open Go.RowKit Go.ChangeShapes Go.WideShapes
def Opens {H : Type} (enc : TypeId × Value → H) (P : Program) (w : World) (t : TypeId) {α : Type} (f : α → List Tr) (s : α → Prop) (bk : α → Nat) : Prop :=
  ∀ (n : Nat) (cs : List Value) (x : DataW H × List MemPlace), DataW.trod enc P w 0 (fun _ => true) true n t cs = some x →
    ∃ a, cs.length = (f a).length ∧ ((∀ m ∈ x.1.weights P t, m ≤ reachBytes) → s a) ∧ bk a ≤ Rows.uptoBulk x.1 ∧ ∀ (j : Nat) tr u, (f a)[j]? = some tr → cs[j]? = some u → Frz w (fun b => b < w.heap.size) tr u
theorem Opens.int {H : Type} {enc : TypeId × Value → H} {P : Program} {w : World} {t : TypeId} {k : IntKind} (ht : P.underlying t = some (.int k)) : Opens enc P w t (fun x : Int => [.v (.int k x)]) (fun x => (Lit.int k x).wf = true) (fun _ => 1) := by
  intro n cs x h
  obtain ⟨a, rfl, rfl, hw⟩ := DataW.trod_int ht h
  refine ⟨a, rfl, fun _ => hw, Nat.le_refl _, fun j tr u hj hu => ?_⟩
  cases j with
  | zero => simp at hj hu; subst hj hu; exact .v rfl
  | succ j => simp at hj
theorem Opens.bool {H : Type} {enc : TypeId × Value → H} {P : Program} {w : World} {t : TypeId} (ht : P.underlying t = some .bool) : Opens enc P w t (fun x : Bool => [.v (.bool x)]) (fun _ => True) (fun _ => 1) := by
  intro n cs x h
  obtain ⟨a, rfl, rfl⟩ := DataW.trod_bool ht h
  refine ⟨a, rfl, fun _ => trivial, Nat.le_refl _, fun j tr u hj hu => ?_⟩
  cases j with
  | zero => simp at hj hu; subst hj hu; exact .v rfl
  | succ j => simp at hj
theorem Opens.map {H : Type} {enc : TypeId × Value → H} {P : Program} {w : World} {t : TypeId} {α β : Type} {f : α → List Tr} {s : α → Prop} {bk : α → Nat} (h : Opens enc P w t f s bk) (e : α → β) {f' : β → List Tr} {s' : β → Prop} {bk' : β → Nat} (hf : ∀ a, f' (e a) = f a) (hs : ∀ a, s a → s' (e a)) (hb : ∀ a, bk' (e a) ≤ bk a) : Opens enc P w t f' s' bk' := by
  intro n cs x hx
  obtain ⟨a, h1, h2, h3, h4⟩ := h n cs x hx
  exact ⟨e a, by rw [hf]; exact h1, fun hw => hs _ (h2 hw), Nat.le_trans (hb a) h3, by rw [hf]; exact h4⟩
theorem weightsAll_mem {H : Type} {P : Program} {e : TypeId} {d : DataW H} {m : Nat} : ∀ {l : List (DataW H)}, d ∈ l → m ∈ d.weights P e → m ∈ DataW.weightsAll P e l
  | x :: l, h, hm => by
    simp only [DataW.weightsAll, List.mem_append]
    rcases List.mem_cons.1 h with h | h
    · subst h; exact .inl hm
    · exact .inr (weightsAll_mem h hm)
theorem bulkAll_sum {H : Type} {α : Type} {bk : α → Nat} : ∀ {l : List (DataW H)} {m : List α}, m.length = l.length → (∀ (i : Nat) (a : α) (y : DataW H), m[i]? = some a → l[i]? = some y → bk a ≤ Rows.uptoBulk y) → (m.map bk).sum ≤ Rows.uptoBulkAll l
  | [], [], _, _ => by simp [Rows.uptoBulkAll]
  | [], _ :: _, h, _ => by simp at h
  | _ :: _, [], h, _ => by simp at h
  | y :: l, a :: m, hl, h => by
    have h0 := h 0 a y rfl rfl
    have h1 := bulkAll_sum (l := l) (m := m) (by simpa using hl) (fun i a y h1 h2 => h (i + 1) a y (by simpa using h1) (by simpa using h2))
    simp only [Rows.uptoBulkAll, List.map_cons, List.sum_cons]
    omega
theorem Opens.slice {H : Type} {enc : TypeId × Value → H} {P : Program} {w : World} {t e : TypeId} {α : Type} [Inhabited α] {f : α → List Tr} {q : α → Prop} {bk : α → Nat} {s by_ : Nat} (ht : P.underlying t = some (.slice e)) (hs : P.cellsOf e = s) (hy : P.bytesOf e = by_) (hf : ∀ a, (f a).length = s) (h : Opens enc P w e f q bk) :
    Opens enc P w t (fun l : List α => [.lst (l.map f)]) (fun l => l.length * by_ ≤ reachBytes ∧ ∀ a ∈ l, q a) (fun l => (l.map bk).sum + 1) := by
  intro n cs x hx
  rcases Go.Deep.open_slice ht hx with ⟨rfl, rfl⟩ | ⟨a, len, cap, m, n', D, Pl, rfl, _, hl, hm, hmm, rfl, hel⟩
  · refine ⟨[], rfl, fun _ => ⟨by simp, by simp⟩, by simp [Rows.uptoBulk], fun j tr u hj hu => ?_⟩
    cases j with
    | zero => simp at hj hu; subst hj hu; exact .lst (size := s) (xs := []) ⟨Nat.le_refl _, Nat.zero_le _, fun _ => ⟨rfl, rfl⟩, by simp, fun j u hj => by simp at hj⟩ (fun h => absurd rfl h) rfl (fun _ h => by simp at h) (fun i cs j x u hi => by simp at hi)
    | succ j => simp at hj
  · have hmm' : m = cap := by simpa using hmm
    subst hmm'
    obtain ⟨A, hA⟩ := Go.Deep.choose_lt (α := α) (n := m) (p := fun i b => ∃ cs', w.cells? 0 (a.add (i * P.cellsOf e)) (P.cellsOf e) = some cs' ∧ cs'.length = (f b).length ∧ (((∀ m ∈ (D i).weights P e, m ≤ reachBytes) → q b) ∧ bk b ≤ Rows.uptoBulk (D i)) ∧ ∀ (j : Nat) tr u, (f b)[j]? = some tr → cs'[j]? = some u → Frz w (fun b => b < w.heap.size) tr u) (fun i hi => by
      obtain ⟨cs', h1, h2⟩ := hel i hi
      obtain ⟨b, q1, q2, q2', q3⟩ := h _ _ _ h2
      exact ⟨b, cs', h1, q1, ⟨q2, q2'⟩, q3⟩)
    have cell : ∀ i j, i < len → j < s → ∃ u, w.cell? (a.add (i * s + j)) = some u ∧ ∀ tr, (f (A i))[j]? = some tr → Frz w (fun b => b < w.heap.size) tr u := fun i j hi hj => by
      obtain ⟨cs', h1, h2, _, h3⟩ := hA i (by omega)
      rw [hs] at h1
      obtain ⟨_, c2, c3⟩ := World.cells?_some h1
      have hlt : j < cs'.length := by omega
      refine ⟨cs'[j], ?_, fun tr htr => h3 j tr _ htr (List.getElem?_eq_getElem hlt)⟩
      rw [← Go.Deep.add_add, c3 j (by omega), List.getElem?_eq_getElem hlt]
    let xs : List Value := (List.range (len * s)).map fun q => (w.cell? (a.add q)).getD (.bool false)
    have hxl : xs.length = len * s := by simp [xs]
    have hget : ∀ i j, i < len → j < s → ∃ u, xs[i * s + j]? = some u ∧ w.cell? (a.add (i * s + j)) = some u ∧ ∀ tr, (f (A i))[j]? = some tr → Frz w (fun b => b < w.heap.size) tr u := fun i j hi hj => by
      obtain ⟨u, h1, h2⟩ := cell i j hi hj
      refine ⟨u, ?_, h1, h2⟩
      simp only [xs, List.getElem?_map, List.getElem?_range (idx_lt hi hj), Option.map_some, h1, Option.getD_some]
    have hdiv : ∀ q, q < len * s → ∃ i j, i < len ∧ j < s ∧ q = i * s + j := fun q hq => by
      have hs0 : 0 < s := by
        rcases Nat.eq_zero_or_pos s with e | e
        · rw [e] at hq; omega
        · exact e
      exact ⟨q / s, q % s, (Nat.div_lt_iff_lt_mul hs0).2 hq, Nat.mod_lt _ hs0, by rw [Nat.mul_comm]; exact (Nat.div_add_mod q s).symm⟩
    have hlr : ((List.range len).map A).length = len := by simp
    refine ⟨(List.range len).map A, rfl, fun hw => ⟨?_, fun b hb => ?_⟩, ?_, fun j tr u hj hu => ?_⟩
    · have := hw ((((List.range len).map D).length + ((List.range (m - len)).map fun j => D (len + j)).length) * P.bytesOf e) (by simp only [DataW.weights, ht]; exact List.mem_cons_self ..)
      simp only [List.length_map, List.length_range, hy] at this ⊢
      exact Nat.le_trans (Nat.mul_le_mul_right _ (Nat.le_add_right _ _)) this
    · obtain ⟨i, hi, rfl⟩ := List.mem_map.1 hb
      have hi' : i < len := by simpa using hi
      obtain ⟨_, _, _, qq, _⟩ := hA i (by omega)
      refine qq.1 fun k hk => hw k ?_
      simp only [DataW.weights, ht]
      exact List.mem_cons_of_mem _ (List.mem_append_left _ (weightsAll_mem (List.mem_map.2 ⟨i, hi, rfl⟩) hk))
    · have := bulkAll_sum (l := (List.range len).map D) (m := (List.range len).map A) (bk := bk) (by simp) (fun i a y h1 h2 => by
        have hi : i < len := by have := get_lt h1; simpa using this
        simp only [List.getElem?_map, List.getElem?_range hi, Option.map_some, Option.some.injEq] at h1 h2
        subst h1 h2
        obtain ⟨_, _, _, qq, _⟩ := hA i (by omega)
        exact qq.2)
      simp only [Rows.uptoBulk]
      omega
    · cases j with
      | succ j => simp at hj
      | zero =>
        simp at hj hu
        subst hj hu
        refine .lst (size := s) (xs := xs) ⟨hl, hm, fun h => (by cases h), hxl, fun q u hq => ?_⟩ (fun hne => ?_) (by simp) (fun cs hcs => ?_) (fun i cs j x u hi hj hu => ?_)
        · have hq' := get_lt hq
          rw [hxl] at hq'
          obtain ⟨i, j, hi, hj, rfl⟩ := hdiv q hq'
          obtain ⟨u', h1, h2, _⟩ := hget i j hi hj
          rw [h1] at hq; cases hq
          exact h2
        · have hpos : 0 < xs.length := List.length_pos_iff.2 hne
          rw [hxl] at hpos
          obtain ⟨i, j, hi, hj, he⟩ := hdiv 0 hpos
          obtain ⟨u', _, h2, _⟩ := hget i j hi hj
          have := World.block_lt_of_cell? w _ h2
          rw [add_block] at this
          exact this
        · simp at hcs
          obtain ⟨i, _, rfl⟩ := hcs
          exact hf _
        · have hi' : i < len := by have := get_lt hi; simpa using this
          simp only [List.getElem?_map, List.map_map, List.getElem?_range hi', Option.map_some, Option.some.injEq, Function.comp] at hi
          subst hi
          have hj' := get_lt hj
          rw [hf] at hj'
          obtain ⟨u', h1, _, h3⟩ := hget i j hi' hj'
          rw [h1] at hu; cases hu
          exact h3 x hj
def OpensF {H : Type} (enc : TypeId × Value → H) (P : Program) (w : World) (fs : List Field) (off : Nat) {α : Type} (f : α → List Tr) (s : α → Prop) (bk : α → Nat) : Prop :=
  ∀ (n : Nat) (cs : List Value) (ys : List (DataW H × List MemPlace)), ys.length = fs.length → (∀ (i : Nat) (fd : Field), fs[i]? = some fd → DataW.trod enc P w 0 (fun _ => true) true n fd.type ((cs.drop fd.offset).take (P.cellsOf fd.type)) = ys[i]?) →
    ∃ a, ((∀ m ∈ DataW.weightsEach P (fs.map (·.type)) (ys.map (·.1)), m ≤ reachBytes) → s a) ∧ bk a ≤ Rows.uptoBulkAll (ys.map (·.1)) ∧ ∀ (j : Nat) tr u, (f a)[j]? = some tr → cs[off + j]? = some u → Frz w (fun b => b < w.heap.size) tr u
theorem OpensF.nil {H : Type} {enc : TypeId × Value → H} {P : Program} {w : World} {off : Nat} : OpensF enc P w [] off (fun _ : Unit => []) (fun _ => True) (fun _ => 0) :=
  fun n cs ys _ _ => ⟨(), fun _ => trivial, Nat.zero_le _, fun j tr u hj => by simp at hj⟩
theorem OpensF.cons {H : Type} {enc : TypeId × Value → H} {P : Program} {w : World} {off s : Nat} {fd : Field} {fs : List Field} {α β : Type} {f : α → List Tr} {f' : β → List Tr} {q : α → Prop} {q' : β → Prop} {bk : α → Nat} {bk' : β → Nat} {t : TypeId}
    (htt : fd.type = t) (ho : fd.offset = off) (hs : P.cellsOf t = s) (hf : ∀ a, (f a).length = s) (h : Opens enc P w t f q bk) (k : OpensF enc P w fs (off + s) f' q' bk') :
    OpensF enc P w (fd :: fs) off (fun p : α × β => f p.1 ++ f' p.2) (fun p => q p.1 ∧ q' p.2) (fun p => bk p.1 + bk' p.2) := by
  subst htt
  intro n cs ys hl hy
  cases ys with
  | nil => simp at hl
  | cons y ys =>
    have h0 := hy 0 fd rfl
    obtain ⟨a, q1, q2, q2', q3⟩ := h _ _ _ h0
    obtain ⟨b, r2, r2', r3⟩ := k n cs ys (by simpa using hl) (fun i fd' h1 => by have := hy (i + 1) fd' (by simpa using h1); simpa using this)
    rw [hs, hf, ho, List.length_take, List.length_drop] at q1
    refine ⟨(a, b), fun hw => ⟨q2 fun m hm => hw m (by simp only [List.map_cons, DataW.weightsEach, List.mem_append]; exact .inl hm), r2 fun m hm => hw m (by simp only [List.map_cons, DataW.weightsEach, List.mem_append]; exact .inr hm)⟩, by simp only [List.map_cons, Rows.uptoBulkAll]; omega, fun j tr u hj hu => ?_⟩
    by_cases hjs : j < s
    · rw [List.getElem?_append_left (by rw [hf]; exact hjs)] at hj
      refine q3 j tr u hj ?_
      rw [hs, ho, List.getElem?_take, if_pos hjs, List.getElem?_drop]
      exact hu
    · rw [List.getElem?_append_right (by rw [hf]; omega), hf] at hj
      refine r3 (j - s) tr u hj ?_
      rw [← hu]; congr 1; omega
theorem Opens.struct {H : Type} {enc : TypeId × Value → H} {P : Program} {w : World} {t : TypeId} {fs : List Field} {n : Nat} {α : Type} {f : α → List Tr} {q : α → Prop} {bk : α → Nat} (ht : P.underlying t = some (.struct fs.toArray)) (hn : P.cellsOf t = n) (hf : ∀ a, (f a).length = n) (h : OpensF enc P w fs 0 f q bk) : Opens enc P w t f q bk := by
  intro m cs x hx
  obtain ⟨xs, m', rfl, rfl, h1, h2, h3⟩ := DataW.trod_struct ht hx
  obtain ⟨a, q1, q2, q3⟩ := h m' cs xs (by simpa using h2) (fun i fd hi => h3 i fd (by simpa using hi))
  refine ⟨a, by rw [hf, h1, hn], fun hw => q1 fun k hk => hw k ?_, ?_, fun j tr u hj hu => q3 j tr u hj (by simpa using hu)⟩
  · simp only [DataW.weights, ht]
    simpa using hk
  · simp only [Rows.uptoBulk]; omega

def toAV : Tr → AV
  | .v x => .t (.v x)
  | .lst els => .ln els
theorem val_toAV {Kn : Nat → Nat → Prop} {ρ : Rho} {w : World} {Z Y : Nat → Prop} (hy : ∀ b, Z b → Y b) {x : Tr} {v : Value} (h : Frz w Z x v) : Val Kn ρ w Z Y (toAV x) v := by
  cases x with
  | v x => exact .t h
  | lst els =>
    obtain ⟨a, c, size, xs, rfl, hr, hz, he⟩ := h.open
    exact .ln hr (fun hne => hy _ (hz hne)) rfl he
def argAV (agg : Bool) (l : List Tr) : AV := bif agg then .agg (l.map toAV) else match l with
  | [x] => toAV x
  | _ => .any
def isAgg (P : Program) (t : TypeId) : Option Bool := match P.underlying t with
  | some (.struct _) => some true
  | some (.int _) | some .bool | some .string | some (.slice _) => some false
  | _ => none
theorem isAgg_struct {P : Program} {t : TypeId} (h : isAgg P t = some true) : ∃ fs, P.underlying t = some (.struct fs) := by
  unfold isAgg at h
  split at h
  · rename_i fs ht; exact ⟨fs, ht⟩
  all_goals cases h
theorem isAgg_cell {P : Program} {t : TypeId} (h : isAgg P t = some false) {w : World} {r : Reach} {b0 : Nat} {v : Value} (hv : Value.okWide P w r b0 t v) : v.cells.toList = [v] := by
  unfold isAgg at h
  split at h
  · cases h
  · rename_i ht; obtain ⟨n, rfl⟩ := okWide_int ht hv; rfl
  · rename_i ht; obtain ⟨n, rfl⟩ := okWide_bool ht hv; rfl
  · rename_i ht; obtain ⟨n, rfl⟩ := okWide_string ht hv; rfl
  · rename_i ht; obtain ⟨a, l, c, rfl⟩ := okWide_slice ht hv; rfl
  · cases h
theorem Opens.arg {H : Type} {enc : TypeId × Value → H} {P : Program} {w : World} {t : TypeId} {α : Type} {f : α → List Tr} {s : α → Prop} {bk : α → Nat} (h : Opens enc P w t f s bk) {b : Bool} (hb : isAgg P t = some b) (h1 : b = false → ∀ a, (f a).length = 1)
    {r : Reach} {b0 : Nat} {v : Value} {d : DataW H} {ps : List MemPlace} (hv : Value.okWide P w r b0 t v) (hd : DataW.Trod enc P w 0 (fun _ => true) true t v d ps) :
    ∃ a, ((∀ m ∈ d.weights P t, m ≤ reachBytes) → s a) ∧ bk a ≤ Rows.uptoBulk d ∧ ∀ (Kn : Nat → Nat → Prop) (ρ : Rho), Val Kn ρ w (fun b => b < w.heap.size) (fun b => b < w.heap.size) (argAV b (f a)) v := by
  obtain ⟨fuel, hd⟩ := hd
  obtain ⟨a, q1, q2, q3, q4⟩ := h _ _ _ hd
  refine ⟨a, q2, q3, fun Kn ρ => ?_⟩
  cases b with
  | true =>
    obtain ⟨fs, ht⟩ := isAgg_struct hb
    obtain ⟨cs, rfl, hsz⟩ := okWide_struct ht hv
    have e : cs = cs.toList.toArray := by simp
    rw [e]
    simp only [Value.cells] at q1 q4
    refine .agg (by simpa using q1.symm) (fun u hu => ?_) (fun j x u hj hu => ?_)
    · obtain ⟨j, hj⟩ := List.getElem?_of_mem hu
      have hl := get_lt hj
      rw [q1] at hl
      exact (q4 j _ u (List.getElem?_eq_getElem hl) hj).one
    · simp only [List.getElem?_map, Option.map_eq_some_iff] at hj
      obtain ⟨y, hy, rfl⟩ := hj
      exact val_toAV (fun _ h => h) (q4 j y u hy hu)
  | false =>
    have hl := h1 rfl a
    match hfa : f a, hl with
    | [x], _ =>
      rw [hfa] at q1 q4
      show Val Kn ρ w _ _ (toAV x) v
      have hna := isAgg_cell hb hv
      rw [hna] at q4
      exact val_toAV (fun _ h => h) (q4 0 x v rfl rfl)
end Go.Proofs.Ytmljglphegeilaa

namespace Go.Proofs.Ytmljglphegeilaa
set_option linter.unusedVariables false
set_option linter.unusedSimpArgs false
set_option linter.unnecessarySimpa false
open Go.ChangeShapes Go.WideShapes Go.ChangeAt Go.RowKit

theorem trodAll_stays {H : Type} {enc : TypeId × Value → H} {P : Program} (hl : laidOutB P = true) {W W' : World} (hb : Below W.heap.size W W') {sp : Nat → Bool} :
    ∀ (ts : List TypeId) (vs : List Value) (ds : List (DataW H)) (ps : List MemPlace), (∀ t ∈ ts, P.readableRec t = true ∧ t < P.types.size) → DataW.TrodAll enc P W 0 (fun _ => true) true ts vs ds ps →
      (∀ x ∈ ps, x.block < W.heap.size) → (∀ x ∈ ps, sp x.block = true) → DataW.TrodAll enc P W' 0 sp true ts vs ds ps := by
  intro ts
  induction ts with
  | nil =>
    intro vs ds ps _ h _ _
    obtain ⟨rfl, rfl, rfl⟩ := trodAll_nil h
    exact rfl
  | cons t ts ih =>
    intro vs ds ps hr h hlt hsp
    obtain ⟨v, vs, d, ds, p, q, rfl, rfl, rfl, h1, h2⟩ := trodAll_cons h
    refine ⟨p, q, ?_, ih vs ds q (fun t ht => hr t (List.mem_cons_of_mem _ ht)) h2 (fun x hx => hlt x (List.mem_append_right _ hx)) (fun x hx => hsp x (List.mem_append_right _ hx)), rfl⟩
    exact WideElems.Trod_stays hl (hr t (List.mem_cons_self ..)).1 (hr t (List.mem_cons_self ..)).2 h1 (fun x hx => hb.same (hlt x (List.mem_append_left _ hx))) (fun x hx => hsp x (List.mem_append_left _ hx))

theorem law_post {H : Type} {enc : TypeId × Value → H} {P : Program} {f : Func} {s : ChangeSpec} {apart fresh handsOn again : Bool} {W W' : World} {args : Array Value} {ds gs : List (DataW H)} {before : List MemPlace} {tb : TypeId}
    (hl : laidOutB P = true) (hr : ∀ t ∈ f.params.toList, P.readableRec t = true ∧ t < P.types.size) (hres : f.resultTypes = #[tb]) (htb : P.underlying tb = some .bool) (hvars : s.vars = [])
    (hW : DataW.Whole enc P f.params.toList s.vars apart W args.toList ds gs before)
    (hfn : (s.fn H (ds ++ gs)).results = [.lit (.bool true)] ∧ (s.fn H (ds ++ gs)).args = ds ∧ (s.fn H (ds ++ gs)).vars = [])
    (hb : Below W.heap.size W W') : s.post enc P f apart fresh handsOn again W args (.bool true) W' := by
  have hlt : ∀ p ∈ before, p.block < W.heap.size := fun p hp => hW.lt p hp
  have hold : ∀ p ∈ before, (fun b => decide (b < W.heap.size)) p.block = true := fun p hp => by simpa using hlt p hp
  have hW' := hW
  obtain ⟨p, q, hA, hV, hps, hz, hn⟩ := hW
  rw [hvars] at hV
  obtain ⟨rfl, rfl⟩ := trodVars_none hV
  have hpb : before = p := by simpa using hps
  subst hpb
  have hres' : ∀ (b : Nat) (sp : Nat → Bool) (hd : Bool), DataW.TrodAll enc P W' b sp hd f.resultTypes.toList ((Value.bool true).resultList f.resultTypes.size) [.lit (.bool true)] [] := fun b sp hd => by
    rw [hres]
    exact trodAll_mk1 (shut_bool htb _)
  have hargs : ∀ sp : Nat → Bool, (∀ p ∈ before, sp p.block = true) → DataW.TrodAll enc P W' 0 sp true f.params.toList args.toList ds before := fun sp hsp => trodAll_stays hl hb _ _ _ _ hr hA hlt hsp
  have hvs : ∀ sp : Nat → Bool, DataW.TrodVars enc P W' sp s.vars [] [] := fun sp => by rw [hvars]; exact rfl
  refine ⟨ds, [], before, [], before, [], hW', ?_, ?_, ?_, World.keptBut_mono (fun p hp => ⟨hp, Or.inr (Or.inl hp)⟩) (hb.frame (· ∈ before)), fun _ => ?_⟩
  · rw [hfn.1]; exact hres' _ _ _
  · rw [hfn.2.1]; exact hargs _ hold
  · rw [hfn.2.2]; exact hvs _
  · refine ⟨ok_one hres rfl (okWide_bool_mk htb _), [.lit (.bool true)] ++ ds, [], [] ++ before ++ [], ⟨[] ++ before, [], trodAll_append (hargs _ (fun _ _ => rfl)) (hres' _ _ _), hvs _, rfl, ?_, ?_⟩, ?_⟩
    · intro b off hp
      have hin : MemPlace.cell b off ∈ before := by simpa using hp
      rw [hb.frozen (hlt _ hin)]
      exact hz b off hin
    · intro ha
      simpa using hn ha
    · intro p hp _
      simpa using hp
#print axioms law_post
end Go.Proofs.Ytmljglphegeilaa

namespace Go.Proofs.Ytmljglphegeilaa
set_option linter.unusedVariables false
set_option linter.unusedSimpArgs false
set_option linter.unnecessarySimpa false
open Go.RowKit Go.ChangeShapes Go.WideShapes Go.ChangeAt Go.Joins Go.Deep
theorem own : ownKnob Try.prog.godebug = none := by kernel_rfl
theorem laidOut : laidOutB Try.prog = true := by kernel_rfl
def oldEnv (W : World) : Env := { W := W, D := fun b => W.heap.size ≤ b, H := [], ρ := fun _ _ => ⟨none, 0, 0⟩, Z := fun b => b < W.heap.size, Y := fun b => b < W.heap.size, big := fun _ h => h, yd := fun b h1 h2 => by omega }
theorem Cd.law {P : Program} {f : FuncId} {args : List AV} (h : Cd P f args (.t (.v (.bool true))) []) {W : World} {vs : List Value} (hv : AVs (Val (Kn []) (oldEnv W).ρ W (oldEnv W).Z (oldEnv W).Y) args vs) :
    Calls P f vs.toArray W fun e W' => e = .returned (.bool true) ∧ Below W.heap.size W W' := by
  refine (h (oldEnv W) vs rfl ⟨fun i o hi => by simp [oldEnv] at hi, fun i j o o' b hi => by simp [oldEnv] at hi, fun i o b hi => by simp [oldEnv] at hi, fun b h => h, fun b h => h⟩ (fun i o b hi => by simp at hi) hv).mono ?_
  rintro en w' ⟨v, r, heap, ρ, Z, Y, rfl, ⟨rfl, rfl⟩, hok, hval⟩
  have e : v = .bool true := by
    cases hval with
    | t h => cases h; rfl
  subst e
  exact ⟨rfl, hok.os, hok.tape, hok.output, hok.size, fun k hk => hok.keep k (by simp only [oldEnv]; omega)⟩
theorem AVs.nil {R : AV → Value → Prop} : AVs R [] [] := ⟨rfl, fun j x u h => by simp at h⟩
theorem AVs.cons {R : AV → Value → Prop} {x : AV} {v : Value} {l : List AV} {us : List Value} (h : R x v) (k : AVs R l us) : AVs R (x :: l) (v :: us) := by
  refine ⟨by simp [k.len], fun j y u hj hu => ?_⟩
  cases j with
  | zero => simp at hj hu; subst hj hu; exact h
  | succ j => exact k.at_ j y u (by simpa using hj) (by simpa using hu)
theorem wt_of {H : Type} {P : Program} {ts us : List TypeId} {ds gs : List (DataW H)} (h : (DataW.weightsEach P (ts ++ us) (ds ++ gs)).all (· ≤ reachBytes) = true) {j : Nat} {t : TypeId} {d : DataW H} (ht : ts[j]? = some t) (hd : ds[j]? = some d) : ∀ m ∈ d.weights P t, m ≤ reachBytes := fun m hm => by
  have h1 : (ts ++ us)[j]? = some t := by rw [List.getElem?_append_left (get_lt ht)]; exact ht
  have h2 : (ds ++ gs)[j]? = some d := by rw [List.getElem?_append_left (get_lt hd)]; exact hd
  have := List.all_eq_true.1 h _ (DataW.weights_mem_each h1 h2 m hm)
  simpa using this
theorem bulk_of {H : Type} {ds : List (DataW H)} (h : Rows.uptoSmall H (ds ++ []) = true) : Rows.uptoBulkAll ds ≤ 1048576 := by
  rw [List.append_nil] at h
  exact of_decide_eq_true h
theorem i64_wf {x : Int} (h : (Lit.int .i64 x).wf = true) : -9223372036854775808 ≤ x ∧ x ≤ 9223372036854775807 := by have := bounds_i64 h; omega
inductive Wa : AV → AV → Prop
  | any (x : AV) : Wa x .any
  | refl (x : AV) : Wa x x
  | agg {l l' : List AV} (h1 : l.length = l'.length) (h : ∀ (j : Nat) x y, l[j]? = some x → l'[j]? = some y → Wa x y) : Wa (.agg l) (.agg l')
inductive WaL : List AV → List AV → Prop
  | nil : WaL [] []
  | cons {x y : AV} {l l' : List AV} (h : Wa x y) (k : WaL l l') : WaL (x :: l) (y :: l')
theorem WaL.get {l l' : List AV} (h : WaL l l') : l.length = l'.length ∧ ∀ (j : Nat) x y, l[j]? = some x → l'[j]? = some y → Wa x y := by
  induction h with
  | nil => exact ⟨rfl, fun j x y h => by simp at h⟩
  | @cons x y l l' h k ih =>
    refine ⟨by simp [ih.1], fun j a b ha hb => ?_⟩
    cases j with
    | zero => simp at ha hb; subst ha hb; exact h
    | succ j => exact ih.2 j a b (by simpa using ha) (by simpa using hb)
theorem Wa.aggL {l l' : List AV} (h : WaL l l') : Wa (.agg l) (.agg l') := .agg h.get.1 h.get.2
theorem Wa.val {Kn : Nat → Nat → Prop} {ρ : Rho} {w : World} {Z Y : Nat → Prop} {x y : AV} (h : Wa x y) : ∀ {v : Value}, Val Kn ρ w Z Y x v → Val Kn ρ w Z Y y v := by
  induction h with
  | any x => intro v _; exact .any v
  | refl x => intro v h; exact h
  | @agg l l' h1 h ih =>
    intro v hv
    cases hv with
    | @agg _ us e ho hu =>
      refine .agg (h1.symm.trans e) ho fun j y u hj hu' => ?_
      have hl := get_lt hj
      rw [← h1] at hl
      exact ih j _ y (List.getElem?_eq_getElem hl) hj (hu j _ u (List.getElem?_eq_getElem hl) hu')
theorem headD {α : Type} {l : List α} {x : α} (h : l.head? = some x) : ∃ r, l = x :: r := by
  cases l with
  | nil => cases h
  | cons y r => cases h; exact ⟨r, rfl⟩
theorem strip_cut (rest : List (List Char)) : stripLifts liftWords ("cut".toList :: rest) = ([], "cut".toList :: rest) := by
  simp [stripLifts, liftWords]
theorem mayEnter_cut {P : Program} (h : (behindMainWord (wordsSigns P.initOrder.toList)).head? = some "cut".toList) (h1 : P.laysLater = false) (h2 : P.bearsReflect = false) (h3 : P.doorFits [] = true) : P.mayEnter = true := by
  obtain ⟨rest, hr⟩ := headD h
  unfold Program.mayEnter
  rw [hr]
  simp only [strip_cut, h1, h2, h3]
  simp
theorem liftsFinal_cut {P : Program} (h : (behindMainWord (wordsSigns P.initOrder.toList)).head? = some "cut".toList) : P.liftsFinal = false := by
  obtain ⟨rest, hr⟩ := headD h
  unfold Program.liftsFinal Program.headLifts
  rw [hr]
  simp only [strip_cut]
  simp
theorem make_cut {P : Program} (h : (behindMainWord (wordsSigns P.initOrder.toList)).head? = some "cut".toList) : P.make = some .cut := by
  obtain ⟨rest, hr⟩ := headD h
  unfold Program.make
  rw [hr]
  simp
set_option maxRecDepth 100000 in
theorem cutHead : (behindMainWord (wordsSigns Try.prog.initOrder.toList)).head? = some "cut".toList := by
  have h := (congrArg String.toList (rfl : Try.prog.initOrder = String.ofList _)).trans String.toList_ofList
  rw [h]
  decide +kernel
theorem mayEnter_ok : Try.prog.mayEnter = true := mayEnter_cut cutHead (by kernel_rfl) (by kernel_rfl) (by kernel_rfl)
theorem liftsFinal_ok : Try.prog.liftsFinal = false := liftsFinal_cut cutHead
theorem make_ok : Try.prog.make = some .cut := make_cut cutHead
theorem and_mk {a b : Bool} (h : a = true) (k : b = true) : (a && b) = true := by simp [h, k]
end Go.Proofs.Ytmljglphegeilaa


namespace Go.Proofs.Ytmljglphegeilaa
set_option linter.unusedVariables false
set_option linter.unusedSimpArgs false
set_option linter.unnecessarySimpa false
open Go.RowKit
set_option maxHeartbeats 32000000
attribute [local irreducible] AL AW RG Fin C Cd Cio thenQ blockQ retQ
theorem mixed : Try.prog.follows .mixedOrders = true := by kernel_rfl
abbrev bo (b : Bool) : AV := .t (.v (.bool b))
abbrev i64 (x : Int) : AV := .t (.v (.int .i64 x))
def tI (x : Int) : List Tr := [.v (.int .i64 x)]
def tU (x : Int) : List Tr := [.v (.int .u64 x)]
structure Rst where
  seq : Int
  cas : Int
  code : Int
  value : Int
  deriving DecidableEq, Inhabited
def tR (r : Rst) : List Tr := [.v (.int .i64 r.seq), .v (.int .i64 r.cas), .v (.int .i64 r.code), .v (.int .i64 r.value)]
def setR (d : List Rst) (t : Int) (r : Rst) : List Rst := if 0 ≤ t ∧ t < d.length then d.set t.toNat r else d
theorem setR_yes {d : List Rst} {t : Int} {r : Rst} (h0 : 0 ≤ t) (h : t < d.length) : setR d t r = d.set t.toNat r := if_pos ⟨h0, h⟩
theorem setR_no {d : List Rst} {t : Int} {r : Rst} (h : ¬ (0 ≤ t ∧ t < d.length)) : setR d t r = d := if_neg h
theorem setR_len (d : List Rst) (t : Int) (r : Rst) : (setR d t r).length = d.length := by unfold setR; split <;> simp
set_option maxRecDepth 100000 in
set_option maxHeartbeats 4000000 in
theorem clone_I (l : List Int) (h : l.length ≤ 17592186044416) : Cd Try.prog 17 [.ln (l.map tI)] (.sl 0 0 l.length) [.row 0 3 1 (l.map tI)] := by
  refine Cd.enter' Try.func17 rfl Try.ntmps17 rfl ?_
  repeat' (first | ((with_reducible refine kAL ?_); (first | (refine kL 1 rfl ?_; (first | refine A_move rfl rfl _ (.inr rfl) (y := .sl _ _ _) rfl ?_ | refine A_move rfl rfl _ (.inr rfl) (y := .nl) rfl ?_)) | refine A_move rfl rfl _ (.inl rfl) (y := .ln _) rfl ?_ | (refine kL 713 rfl ?_; (refine A_eqnil rfl rfl 22 _ _ rfl ud22 rfl (fun b hb => ?_))) | (refine kL 719 rfl ?_; refine A_lit0 rfl rfl 22 rfl ud22 inf3 ?_) | (refine kL 12 rfl ?_; (refine A_append_nl rfl rfl _ _ 22 rfl ud22 inf3 rfl rfl (by exact .ln (by exact each_map (fun _ => rfl))) qB qB (by exact qN) (.push qL qN) qS ?_)) | refine AL.nil ?_)) | with_reducible refine AW.at_region _ ?_ | (with_reducible (first | refine wk0 ?_ | refine wk2 ?_ | refine wk3 ?_ | refine wk9 ?_ | refine wkb ?_ | refine wkd ?_)) | refine kcc rfl (fun hc => ?_) (fun hc => ?_))
  · have hl : l = [] := by simpa using hb hc
    subst hl
    refine Fin.wk (Wk.own 2 rfl 3 1 (.push rfl rfl)) ?_
    exact Fin.q Try.results17 (.cons (.tmp rfl) .nil) [0]
  · exact Fin.q Try.results17 (.cons (.tmp rfl) .nil) [0]
end Go.Proofs.Ytmljglphegeilaa


namespace Go.Proofs.Ytmljglphegeilaa
set_option linter.unusedVariables false
set_option linter.unusedSimpArgs false
set_option linter.unnecessarySimpa false
open Go.RowKit Go.ChangeShapes Go.WideShapes
def sI (x : Int) : Prop := -9223372036854775808 ≤ x ∧ x ≤ 9223372036854775807
def tB (x : Bool) : List Tr := [.v (.bool x)]
def b1 {α : Type} (_ : α) : Nat := 1
def sL {α : Type} (s : α → Prop) (k : Nat) (l : List α) : Prop := l.length * k ≤ reachBytes ∧ ∀ a ∈ l, s a
def bL {α : Type} (b : α → Nat) (l : List α) : Nat := (l.map b).sum + 1
def tL {α : Type} (f : α → List Tr) (l : List α) : List Tr := [.lst (l.map f)]
theorem bL_le {α : Type} {b : α → Nat} (h : ∀ a, 1 ≤ b a) (l : List α) : l.length + 1 ≤ bL b l := by
  unfold bL
  induction l with
  | nil => simp
  | cons a l ih => have := h a; simp only [List.map_cons, List.sum_cons, List.length_cons] at ih ⊢; omega
section
variable {H : Type} {enc : TypeId × Value → H} {W : World}
theorem o_int : Opens enc Try.prog W 3 tI sI b1 := Opens.map (Opens.int Try.underlying3) id (fun _ => rfl) (fun _ h => i64_wf h) (fun _ => Nat.le_refl _)
theorem o_ints : Opens enc Try.prog W 22 (tL tI) (sL sI 8) (bL b1) := Opens.slice Try.underlying22 (by kernel_rfl) (by kernel_rfl) (fun _ => rfl) o_int
theorem o_errno : Opens enc Try.prog W 42 tI sI b1 := Opens.map (Opens.int Try.underlying42) id (fun _ => rfl) (fun _ h => i64_wf h) (fun _ => Nat.le_refl _)
end
def sR (x : Rst) : Prop := sI x.seq ∧ sI x.cas ∧ sI x.code ∧ sI x.value
def bR (x : Rst) : Nat := b1 x.seq + b1 x.cas + b1 x.code + b1 x.value
theorem o_R {H : Type} {enc : TypeId × Value → H} {W : World} : Opens enc Try.prog W 44 tR sR bR := by
  refine Opens.map (Opens.struct (n := 4) Try.underlying44 (by kernel_rfl) (fun _ => rfl) (OpensF.cons (s := 1) rfl rfl (by kernel_rfl) (fun _ => rfl) o_int (OpensF.cons (s := 1) rfl rfl (by kernel_rfl) (fun _ => rfl) o_int (OpensF.cons (s := 1) rfl rfl (by kernel_rfl) (fun _ => rfl) o_errno (OpensF.cons (s := 1) rfl rfl (by kernel_rfl) (fun _ => rfl) o_int OpensF.nil))))) (fun (p : Int × Int × Int × Int × Unit) => ⟨p.1, p.2.1, p.2.2.1, p.2.2.2.1⟩) (fun p => ?_) (fun p h => ?_) (fun p => ?_)
  · simp [tR, List.append_nil, tI, tL]
  · obtain ⟨h0, h1, h2, h3, _⟩ := h; exact ⟨h0, h1, h2, h3⟩
  · exact Nat.le_of_eq (by simp only [bR, Nat.add_assoc, Nat.add_zero])
structure DRef where
  index : Int
  tag : Int
  deriving DecidableEq, Inhabited
def tRf (x : DRef) : List Tr := tI x.index ++ tI x.tag
structure DSlot where
  index : Int
  tag : Int
  deriving DecidableEq, Inhabited
structure DOld where
  ref : DRef
  stamp : Int
  deriving DecidableEq, Inhabited
def tOd (x : DOld) : List Tr := tRf x.ref ++ tI x.stamp
structure DCase where
  dir : Int
  handle : Int
  value : Int
  deriving DecidableEq, Inhabited
def tCs (x : DCase) : List Tr := tI x.dir ++ tI x.handle ++ tI x.value
theorem o_Rs {H : Type} {enc : TypeId × Value → H} {W : World} : Opens enc Try.prog W 23 (tL tR) (sL sR 32) (bL bR) := Opens.slice (s := 4) Try.underlying23 (by kernel_rfl) (by kernel_rfl) (fun _ => rfl) o_R


structure DReq where
  kind : Int
  arg : Int
  value : Int
  dflt : Bool
  cases : List DCase
  deriving DecidableEq, Inhabited
def tRq (x : DReq) : List Tr := tI x.kind ++ tI x.arg ++ tI x.value ++ tB x.dflt ++ tL tCs x.cases
structure DCells where
  cap : Int
  list : List Int
  done : List Rst
  deriving DecidableEq, Inhabited
def tCl (x : DCells) : List Tr := tI x.cap ++ tL tI x.list ++ tL tR x.done
def sCl (x : DCells) : Prop := sI x.cap ∧ (sL sI 8) x.list ∧ (sL sR 32) x.done
def bCl (x : DCells) : Nat := b1 x.cap + (bL b1) x.list + (bL bR) x.done
theorem o_Cl {H : Type} {enc : TypeId × Value → H} {W : World} : Opens enc Try.prog W 25 tCl sCl bCl := by
  refine Opens.map (Opens.struct (n := 3) Try.underlying25 (by kernel_rfl) (fun _ => rfl) (OpensF.cons (s := 1) rfl rfl (by kernel_rfl) (fun _ => rfl) o_int (OpensF.cons (s := 1) rfl rfl (by kernel_rfl) (fun _ => rfl) o_ints (OpensF.cons (s := 1) rfl rfl (by kernel_rfl) (fun _ => rfl) o_Rs OpensF.nil)))) (fun (p : Int × List Int × List Rst × Unit) => ⟨p.1, p.2.1, p.2.2.1⟩) (fun p => ?_) (fun p h => ?_) (fun p => ?_)
  · simp [tCl, List.append_nil, tI, tL, tR]
  · obtain ⟨h0, h1, h2, _⟩ := h; exact ⟨h0, h1, h2⟩
  · exact Nat.le_of_eq (by simp only [bCl, Nat.add_assoc, Nat.add_zero])
structure DSpan where
  thread : Int
  seq : Int
  beg : Int
  fin : Int
  deriving DecidableEq, Inhabited
structure DTold where
  thread : Int
  result : Rst
  deriving DecidableEq, Inhabited
structure DWait where
  on : Bool
  ticket : Int
  seq : Int
  cases : List DCase
  deriving DecidableEq, Inhabited
structure DChan where
  gen : Int
  cap : Int
  used : Bool
  closed : Bool
  buf : List Int
  deriving DecidableEq, Inhabited
structure DOp where
  thread : Int
  seq : Int
  phase : Int
  req : DReq
  deriving DecidableEq, Inhabited
def tOp (x : DOp) : List Tr := tI x.thread ++ tI x.seq ++ tI x.phase ++ tRq x.req
structure DNote where
  kind : Int
  thread : Int
  seq : Int
  time : Int
  req : DReq
  result : Rst
  deriving DecidableEq, Inhabited
structure DTurn where
  time : Int
  thread : Int
  ops : List DOp
  deriving DecidableEq, Inhabited
structure DHall where
  ticket : Int
  chans : List DChan
  waits : List DWait
  done : List Rst
  deriving DecidableEq, Inhabited
structure DConf where
  kind : Int
  threads : Int
  chans : Int
  cap : Int
  nodes : Int
  retire : Int
  patience : Int
  tags : Int
  seqs : Int
  gens : Int
  start : List Int
  deriving DecidableEq, Inhabited
structure DPool where
  own : DRef
  free : List DSlot
  old : List DOld
  spent : Int
  deriving DecidableEq, Inhabited
structure DPump where
  on : Bool
  shut : Bool
  over : Bool
  inn : Int
  outs : List Int
  at_ : Int
  value : Int
  deriving DecidableEq, Inhabited
end Go.Proofs.Ytmljglphegeilaa


namespace Go.Proofs.Ytmljglphegeilaa
set_option linter.unusedVariables false
set_option linter.unusedSimpArgs false
set_option linter.unnecessarySimpa false
open Go.RowKit
section
variable {P : Program} {w : World}
theorem run_copy_any {dT sT ty e E : TypeId} (hu : P.underlying dT = some (.slice e)) (hI : (P.info? e).map (·.size) = some 1) {sa : Option Addr} {n c : Nat} {xs : List Value} (hown : (Res.row sa n c E 1 xs).holds 0 w) {off q cq : Nat} (hoq : off + q ≤ n)
    {da : Option Addr} (hda : q ≠ 0 → da = some ((adr sa).add off)) {xa : Option Addr} {xc : Nat} {ys : List Value} (hr : Rs w 1 xa ys.length xc ys) (h1 : ∀ u ∈ ys, u.oneCell' = true) (hle : ys.length ≤ q) :
    ∃ w', (Builtin.copy_ #[dT, sT] ty #[.slice da q cq, .slice xa ys.length xc]).run P w = .ok (goInt ys.length) w' ∧ (Res.row sa n c E 1 (xs.take off ++ ys ++ xs.drop (off + ys.length))).holds 0 w' ∧ w.grownBy w' (if c = 0 then none else sa.map (·.block)) := by
  by_cases hy : ys = []
  · subst hy
    refine ⟨w, run_copy_none w dT sT ty e da xa q cq 0 xc hu hI (Nat.zero_min q), ?_, ⟨rfl, rfl, rfl, Nat.le_refl _, fun _ _ _ => rfl⟩⟩
    simpa using hown
  have hpos : 0 < ys.length := List.length_pos_iff.2 hy
  rcases hown with ⟨_, hn0, _⟩ | ⟨hcp, hown⟩
  · omega
  have hc0 : c ≠ 0 := by omega
  rcases hown.2 with ⟨he, hn0⟩ | ⟨g, cap, cur, he, hbg, hg, hnc, hcm, hcs, htake⟩
  · omega
  simp only [Value.slice.injEq] at he
  obtain ⟨rfl, _, rfl⟩ := he
  have hsz : n * 1 ≤ cur.size := by rw [hcs]; exact Nat.mul_le_mul_right _ hnc
  have hxl := hown.1
  have hst := run_storeCells_at P g off E ys 0 cur w hg (by omega) h1
  simp only [Nat.add_zero] at hst
  have hadd : (adr (some ⟨g, 0, none⟩)).add off = ⟨g, off, none⟩ := by
    show (⟨g, 0, none⟩ : Addr).add off = _
    rw [add_at]; simp
  rw [hadd] at hda
  obtain rfl := hda (by omega)
  have hxa : ∃ a, xa = some a := by
    cases xa with
    | none => have := (hr.none rfl).1; omega
    | some a => exact ⟨a, rfl⟩
  obtain ⟨a, rfl⟩ := hxa
  have hld := run_loadCells_list (P := P) (w := w) a ys (fun j u hj => hr.cells j u hj)
  have hxs : xs = cur.toList.take (n * 1) := htake.symm
  have hrow : (w.setRow g (cur.toList.take off ++ ys ++ cur.toList.drop (off + ys.length)).toArray).ownsRow 0 E 1 (.slice (some ⟨g, 0, none⟩) n c) n (xs.take off ++ ys ++ xs.drop (off + ys.length)) := by
    refine ⟨by simp only [List.length_append, List.length_take, List.length_drop]; omega, .inr ⟨g, c, _, rfl, hbg, setRow_heap w g cur _ E _ hg, hnc, hcm, ?_, ?_⟩⟩
    · simp only [List.size_toArray, List.length_append, List.length_take, List.length_drop, Array.length_toList]
      omega
    · rw [hxs]
      apply List.ext_getElem?
      intro i
      simp only [List.getElem?_take, List.getElem?_append, List.length_append, List.length_take, List.getElem?_drop, Array.length_toList]
      have e1 : min off cur.size = off := by omega
      have e2 : min off (min (n * 1) cur.size) = off := by omega
      rw [e1, e2]
      repeat' split
      all_goals first | rfl | (exfalso; omega) | (congr 1; omega)
  refine ⟨w.setRow g (cur.toList.take off ++ ys ++ cur.toList.drop (off + ys.length)).toArray, ?_, .inr ⟨hcp, hrow⟩, ⟨rfl, rfl, rfl, by simp, fun k _ hk => setRow_other w g k _ (fun e => hk (by simp [e, hc0]))⟩⟩
  have hmin : Nat.min ys.length q = ys.length := Nat.min_eq_left hle
  cases hq : P.info? e with
  | none => simp [hq] at hI
  | some i =>
    have hi : i.size = 1 := by simpa [hq] using hI
    simp [Builtin.copy_, run_underlying hu, Builtin.lenOf, Builtin.firstCells, sizeOf, typeInfo, hq, hi, hmin, hld, hst]
end
section
variable {P : Program} {ops : Array Oper} {Q : QS} {rest : List Oper} {o : Oper} {n : Fr} {T : Nat → AV} {heap : List Ob} {d : Nat}
theorem A_copy (hw : wantedA n T ops o = true) (hd : o.dst = some d) {s x : Operand} {t t2 : TypeId} (ho : o.op = .call { callee := .builtin .copy, args := #[s, x], argTypes := #[t, t2] }) {e : TypeId} (ht : P.underlying t = some (.slice e)) {z : Option Value} {bytes : Nat} (hI : (P.info? e).map (fun i => (i.zero, i.size, i.bytes)) = some (z, 1, bytes))
    {i k' off m : Nat} (hs : evA n T s = .sub i k' off m) {E : TypeId} {els : List (List Tr)} (hi : heap[i]? = some (.row k' E 1 els)) (hm : off + m ≤ els.length) {news : List (List Tr)} (hx : Rd heap 1 (evA n T x) news) (hle : news.length ≤ m)
    {els' : List (List Tr)} (he : els.take off ++ news ++ els.drop (off + news.length) = els') {heap' : List Ob} (hh : heap.set i (.row k' E 1 els') = heap') {q : Nat} (hq : news.length = q) (k : AL P ops Q rest n (pu T d (.t (.v (.int .i64 (q : Int))))) heap') : AL P ops Q (o :: rest) n T heap := by
  subst he hh hq
  refine AL.act hw hd (fun en a w ρ Z Y hR => ?_) k
  have hsz : (P.info? e).map (·.size) = some 1 := by
    cases hq : P.info? e with
    | none => rw [hq] at hI; simp at hI
    | some i => rw [hq] at hI; simp at hI; simp [hI.2.1]
  have hrep := hR.ok.rep
  obtain ⟨h1, xs, h2, h3, h4⟩ := hrep.row hi
  obtain ⟨xa, xc, ys, g1, g2, g3⟩ := hx.open hrep (hR.eval x)
  have hyl : ys.length = news.length := by have := g3.len; omega
  have hv := hR.eval s
  rw [hs] at hv
  generalize hax : a.eval s = vx at hv
  cases hv with
  | sub hk hn hmx h0 ha =>
  rename_i da cq
  rw [h1] at ha
  obtain ⟨w', r1, r2, r3⟩ := run_copy_any (P := P) (sT := t2) (ty := o.type) (cq := cq) ht hsz h3 hm (fun hq => by simpa using ha hq) (by rw [hyl]; exact g2) g3.one (by omega)
  have hblk : (Ob.row k' E 1 els).blk ρ i = (if (ρ i k').c = 0 then none else (ρ i k').a.map (·.block)) := rfl
  have hsame : ∀ b', b' < w.heap.size → (Ob.row k' E 1 els).blk ρ i ≠ some b' → w'.heap[b']? = w.heap[b']? := fun b' hb' hne => r3.block b' hb' (fun e => hne (by rw [hblk, e]))
  have hz : ∀ b, Z b → Z b ∧ w'.heap[b]? = w.heap[b]? := fun b hb => ⟨hb, hsame b (hrep.ylt b (hrep.zy b hb)) (hrep.notin hi (hrep.zy b hb))⟩
  have hval : ∀ x v, Val (Kn heap) ρ w Z Y x v → Val (Kn (heap.set i (.row k' E 1 (els.take off ++ news ++ els.drop (off + news.length))))) ρ w' Z Y x v := fun x v hv =>
    hrep.val (fun j k hj => ⟨hj.set hi (by exact Nat.le_refl _), rfl⟩) (fun _ h => h) (fun b' hb' => ⟨hb', hsame b' (hrep.ylt b' hb') (hrep.notin hi hb')⟩) hv
  have hlen : (els.take off ++ news ++ els.drop (off + news.length)).length = els.length := by simp only [List.length_append, List.length_take, List.length_drop]; omega
  have hel : Elems (Frz w' Z) 1 (els.take off ++ news ++ els.drop (off + news.length)) (xs.take off ++ ys ++ xs.drop (off + ys.length)) := by
    have e1 := ((h2.take off).append g3).append (h2.drop (off + news.length))
    rw [Nat.mul_one, Nat.mul_one, ← hyl] at e1
    rw [← hyl]
    exact e1.mono fun _ _ h => h.mono hz
  refine ⟨.int .i64 (news.length : Int), w', ρ, Z, Y, ?_, hR.ok.turn hi (Nat.le_refl _) (fun _ _ _ => rfl) ⟨r3.os, r3.tape, r3.output⟩ r3.size hsame ⟨h1, _, hel, by rw [hlen]; exact r2⟩ (fun b' hb' => .inl hb'), hval, .t (.v rfl)⟩
  unfold execOp
  rw [hyl] at r1
  simp only [ho, resolve, invoke, builtin, Sem.run_bind, Sem.run_pure, Result.andThen_ok, List.map_toArray, List.map_cons, List.map_nil, hax, g1, r1, goInt]
def isNilA : AV → Option Bool
  | .ptr _ _ => some false
  | .rp _ _ _ _ => some false
  | .lp _ => some false
  | .t (.v (.pointer none)) => some true
  | _ => none
theorem isNilA_open {Kn : Nat → Nat → Prop} {ρ : Rho} {w : World} {Z Y : Nat → Prop} {x : AV} {b : Bool} (h : isNilA x = some b) {v : Value} (hv : Val Kn ρ w Z Y x v) : ∃ p, v = .pointer p ∧ p.isNone = b := by
  cases hv with
  | ptr hk ha => simp [isNilA] at h; exact ⟨_, rfl, h ▸ rfl⟩
  | rp hk => simp [isNilA] at h; exact ⟨_, rfl, h ▸ rfl⟩
  | lp => simp [isNilA] at h; exact ⟨_, rfl, h ▸ rfl⟩
  | t h' => cases h' with
    | v hx =>
      cases v <;> simp [isNilA] at h
      rename_i p
      cases p <;> simp [isNilA] at h
      exact ⟨none, rfl, h ▸ rfl⟩
    | lst => simp [isNilA] at h
  | _ => simp [isNilA] at h
theorem guard_ptr {P : Program} {op : BinOp} {xt : TypeId} {x y : Operand} {a b : Option Addr} {w : World} : (eqGuard op xt x y (.pointer a) (.pointer b)).run P w = .ok () w := by
  unfold eqGuard
  cases op <;> simp
theorem run_ptr_nil0 {P : Program} {t e : TypeId} (ht : P.underlying t = some (.pointer e)) (p : Option Addr) (w : World) (d : Nat) : (Op.equalIn (d + 1) t (.pointer p) (.pointer none)).run P w = .ok p.isNone w := by
  cases p <;> simp [Op.equalIn, run_underlying ht, Result.andThen]
theorem run_ptr_nil {P : Program} {t e : TypeId} (ht : P.underlying t = some (.pointer e)) (p : Option Addr) (w : World) : (Op.equal t (.pointer p) (.pointer none)).run P w = .ok p.isNone w := run_ptr_nil0 ht p w 9999
theorem A_pnil (hw : wantedA n T ops o = true) (hd : o.dst = some d) {op : BinOp} {t yt : TypeId} {x : Operand} (ho : o.op = .binOp op t x (.const (.pointer none)) yt) {e : TypeId} (ht : P.underlying t = some (.pointer e)) {b : Bool} (hx : isNilA (evA n T x) = some b) {c : Bool} (hc : (op = .eql ∧ b = c) ∨ (op = .neq ∧ (!b) = c))
    (k : AL P ops Q rest n (pu T d (.t (.v (.bool c)))) heap) : AL P ops Q (o :: rest) n T heap := by
  refine AL.val hw hd (fun en a w ρ Z Y hR => ?_) k
  obtain ⟨p, h1, h2⟩ := isNilA_open hx (hR.eval x)
  refine ⟨.bool c, ?_, .t (.v rfl)⟩
  refine val_of (s := do eqGuard op t x (.const (.pointer none)) (a.eval x) (a.eval (.const (.pointer none))); binOp op t (a.eval x) (a.eval (.const (.pointer none)))) (by unfold execOp; rw [ho]) ?_
  rw [h1]
  show (do eqGuard op t x (.const (.pointer none)) (.pointer p) (.pointer none); binOp op t (.pointer p) (.pointer none) : Sem Value).run P w = _
  simp only [Sem.run_bind, guard_ptr, Result.andThen_ok]
  rcases hc with ⟨rfl, rfl⟩ | ⟨rfl, rfl⟩
  · simp only [binOp, Sem.run_bind, run_ptr_nil ht, Result.andThen_ok, Sem.run_pure, h2]
  · simp only [binOp, Sem.run_bind, run_ptr_nil ht, Result.andThen_ok, Sem.run_pure, h2]
theorem nil_len {Kn : Nat → Nat → Prop} {ρ : Rho} {w : World} {Z Y : Nat → Prop} {x : AV} {m c : Nat} (hx : lenA x = some m) (hv : Val Kn ρ w Z Y x (.slice none m c)) : m = 0 := by
  generalize hq : Value.slice none m c = q at hv
  cases hv <;> simp [lenA] at hx
  · rename_i x h'
    cases x with
    | v => cases hx
    | lst els =>
      obtain ⟨a', c', s', xs, e1, h2, _, _⟩ := h'.open
      rw [← hq] at e1
      simp only [Value.slice.injEq] at e1
      obtain ⟨rfl, e2, rfl⟩ := e1
      rw [e2]; exact (h2.none rfl).1
  · omega
  · rename_i hr hz hn he
    simp only [Value.slice.injEq] at hq
    obtain ⟨rfl, rfl, rfl⟩ := hq
    exact (hr.none rfl).1
  · rename_i i k' hk hc h0
    simp only [Value.slice.injEq] at hq
    have := h0 hq.1.symm
    omega
  · rename_i hn hmx h0 ha
    simp only [Value.slice.injEq] at hq
    obtain ⟨rfl, rfl, rfl⟩ := hq
    exact (h0 rfl).1
theorem A_snil (hw : wantedA n T ops o = true) (hd : o.dst = some d) {op : BinOp} {t yt : TypeId} {x : Operand} {n' c' : Nat} (ho : o.op = .binOp op t x (.const (.slice none n' c')) yt) {e : TypeId} (ht : P.underlying t = some (.slice e)) {m : Nat} (hx : lenA (evA n T x) = some m) (hm : 0 < m) {c : Bool} (hc : (op = .eql ∧ c = false) ∨ (op = .neq ∧ c = true))
    (k : AL P ops Q rest n (pu T d (.t (.v (.bool c)))) heap) : AL P ops Q (o :: rest) n T heap := by
  refine AL.val hw hd (fun en a w ρ Z Y hR => ?_) k
  obtain ⟨sa, c2, h1⟩ := lenA_open hx (hR.eval x)
  have hsa : sa.isNone = false := by
    cases sa with
    | some a => rfl
    | none => have hv := hR.eval x; rw [h1] at hv; have := nil_len hx hv; omega
  refine ⟨.bool c, ?_, .t (.v rfl)⟩
  refine val_of (s := do eqGuard op t x (.const (.slice none n' c')) (a.eval x) (a.eval (.const (.slice none n' c'))); binOp op t (a.eval x) (a.eval (.const (.slice none n' c')))) (by unfold execOp; rw [ho]) ?_
  rw [h1]
  show (do eqGuard op t x (.const (.slice none n' c')) (.slice sa m c2) (.slice none n' c'); binOp op t (.slice sa m c2) (.slice none n' c') : Sem Value).run P w = _
  simp only [Sem.run_bind, guard_slice, Result.andThen_ok]
  rcases hc with ⟨rfl, rfl⟩ | ⟨rfl, rfl⟩
  · rw [Lib.run_eql_slice_nil w t e sa m c2 n' c' ht, hsa]
  · rw [run_neq_slice_nil_any w t e sa m c2 n' c' ht, hsa]; rfl
theorem R_pnil {F : List Dl → (Nat → AV) → List Ob → Prop} {acc : List Dl} (hw : wantedA n T ops o = true) (hd : o.dst = some d) {op : BinOp} {t yt : TypeId} {x : Operand} (ho : o.op = .binOp op t x (.const (.pointer none)) yt) {e : TypeId} (ht : P.underlying t = some (.pointer e)) {b : Bool} (hx : isNilA (evA n T x) = some b) {c : Bool} (hc : (op = .eql ∧ b = c) ∨ (op = .neq ∧ (!b) = c)) (k : RG P ops n F rest (acc ++ [⟨some d, .t (.v (.bool c)), [], []⟩]) (pu T d (.t (.v (.bool c)))) heap) : RG P ops n F (o :: rest) acc T heap :=
  RG.cons hd.symm (fun T' h' hT hH hlen_ => A_pnil (by rw [wanted_eqA hT]; exact hw) hd ho ht (by rw [ev_eq hT (by simp [ho, Op.operands, Call.operands])]; exact hx) hc (AL.nil ⟨rfl, rfl, rfl⟩)) rfl rfl k
theorem R_snil {F : List Dl → (Nat → AV) → List Ob → Prop} {acc : List Dl} (hw : wantedA n T ops o = true) (hd : o.dst = some d) {op : BinOp} {t yt : TypeId} {x : Operand} {n' c' : Nat} (ho : o.op = .binOp op t x (.const (.slice none n' c')) yt) {e : TypeId} (ht : P.underlying t = some (.slice e)) {m : Nat} (hx : lenA (evA n T x) = some m) (hm : 0 < m) {c : Bool} (hc : (op = .eql ∧ c = false) ∨ (op = .neq ∧ c = true)) (k : RG P ops n F rest (acc ++ [⟨some d, .t (.v (.bool c)), [], []⟩]) (pu T d (.t (.v (.bool c)))) heap) : RG P ops n F (o :: rest) acc T heap :=
  RG.cons hd.symm (fun T' h' hT hH hlen_ => A_snil (by rw [wanted_eqA hT]; exact hw) hd ho ht (by rw [ev_eq hT (by simp [ho, Op.operands, Call.operands])]; exact hx) hm hc (AL.nil ⟨rfl, rfl, rfl⟩)) rfl rfl k
end
end Go.Proofs.Ytmljglphegeilaa


namespace Go.Proofs.Ytmljglphegeilaa
set_option linter.unusedVariables false
set_option linter.unusedSimpArgs false
set_option linter.unnecessarySimpa false
open Go.RowKit
theorem fill_mono {f g : Nat → Option (Nat × Nat)} (h : ∀ i x, g i = some x → f i = some x) : ∀ (l : List (Nat × Value)) (cs r : Array Value), Instr.fill g cs l = some r → Instr.fill f cs l = some r
  | [], cs, r, hr => hr
  | (i, v) :: l, cs, r, hr => by
    unfold Instr.fill at hr ⊢
    cases hg : g i with
    | none => rw [hg] at hr; cases hr
    | some x =>
      obtain ⟨off, size⟩ := x
      rw [hg] at hr
      rw [h i _ hg]
      dsimp only at hr ⊢
      split at hr
      · cases hr
      · rename_i hc
        rw [if_neg hc]
        exact fill_mono h l _ r hr
def arrOk (s : Nat) : Nat → List (Nat × Nat) → Bool
  | _, [] => true
  | i, p :: l => Nat.beq p.1 (i * s) && Nat.beq p.2 s && arrOk s (i + 1) l
theorem arrOk_get {s : Nat} : ∀ {l : List (Nat × Nat)} {i j : Nat} {x : Nat × Nat}, arrOk s i l = true → l[j]? = some x → x = ((i + j) * s, s)
  | [], i, j, x, _, hj => by simp at hj
  | p :: l, i, j, x, h, hj => by
    unfold arrOk at h
    simp only [Bool.and_eq_true, Nat.beq_eq_true_eq] at h
    obtain ⟨⟨h1, h2⟩, h3⟩ := h
    cases j with
    | zero => simp at hj; subst hj; exact Prod.ext (by simpa using Nat.eq_of_beq_eq_true h1) (Nat.eq_of_beq_eq_true h2)
    | succ j =>
      rw [List.getElem?_cons_succ] at hj
      have := arrOk_get h3 hj
      rw [this]; congr 2; omega
section
variable {P : Program} {ops : Array Oper} {Q : QS} {rest : List Oper} {o : Oper} {n : Fr} {T : Nat → AV} {heap : List Ob} {d : Nat}
theorem A_buildA (hw : wantedA n T ops o = true) (hd : o.dst = some d) {t : TypeId} {parts : Array (Nat × Operand)} (ho : o.op = .build t parts) {len : Nat} {el : TypeId} (hu : P.underlying t = some (.array len el)) {z : Value} {size bytes : Nat} (hI : (P.info? t).map (fun i => (i.zero, i.size, i.bytes)) = some (some z, size, bytes))
    {ez : Option Value} {es eb : Nat} (hE : (P.info? el).map (fun i => (i.zero, i.size, i.bytes)) = some (ez, es, eb)) {places : List (Nat × Nat)} (hp : arrOk es 0 places = true) {zs : List AV} (hz : (ofConst z).flat = some zs) {qs : List (Nat × List AV)} (hq : Parts n T parts.toList qs) {cs : List AV} (hf : fillA places zs qs = some cs)
    (k : AL P ops Q rest n (pu T d (.agg cs)) heap) : AL P ops Q (o :: rest) n T heap := by
  refine AL.val hw hd (fun en a w ρ Z Y hR => ?_) k
  obtain ⟨us, u1, u2, u3⟩ := (val_ofConst (Kn := Kn heap) (ρ := ρ) (w := w) (Z := Z) (Y := Y) z).flat hz
  obtain ⟨vs, q1, q2, q3⟩ := fillA_open hR hq hf u2 u3
  refine ⟨.agg vs.toArray, val_of (s := Instr.build t (parts.map (fun (i, x) => (i, a.eval x)))) (by unfold execOp; rw [ho]) ?_, .agg q2.len q3 q2.at_⟩
  obtain ⟨i, hi, hz', _, _⟩ := info_of hI
  have e2 : (zeroValue t).run P w = .ok z w := by simp [zeroValue, typeInfo, hi, hz']
  have e3 : (sizeOf el).run P w = .ok es w := run_size hE
  have e4 := fill_mono (f := fun i => some (i * es, es)) (fun i x hx => by
    have := arrOk_get hp (j := i) (x := x) (by simpa using hx)
    rw [this]; simp) _ _ _ (fill_of _ _ _ q1)
  have e5 : (parts.map (fun (i, x) => (i, a.eval x))).toList = parts.toList.map (fun x => (x.1, a.eval x.2)) := by simp
  simp only [Instr.build, Sem.run_bind, e2, Result.andThen_ok, run_underlying hu, e3, u1, e5, e4, Sem.run_pure]
theorem A_index (hw : wantedA n T ops o = true) (hd : o.dst = some d) {t : TypeId} {x ix : Operand} (ho : o.op = .index t x ix) {len : Nat} {el : TypeId} (hu : P.underlying t = some (.array len el)) {ds : TypeDesc} (hds : P.underlying el = some ds) (ha : (match ds with | .struct _ | .array _ _ => true | _ => false) = false) {ez : Option Value} {eb : Nat} (hE : (P.info? el).map (fun i => (i.zero, i.size, i.bytes)) = some (ez, 1, eb))
    {kd : IntKind} {I : Int} (hix : evA n T ix = .t (.v (.int kd I))) (h0I : 0 ≤ I) {J : Nat} (hJ : I.toNat = J) (hlt : J < len) {l : List AV} (hx : evA n T x = .agg l) {u : AV} (hc : l[J]? = some u) (k : AL P ops Q rest n (pu T d u) heap) : AL P ops Q (o :: rest) n T heap := by
  obtain rfl : I = (J : Int) := by omega
  refine AL.val hw hd (fun en a w ρ Z Y hR => ?_) k
  have hv := hR.eval x
  rw [hx] at hv
  generalize hax : a.eval x = vx at hv
  have hvi := hR.eval ix
  rw [hix] at hvi
  generalize hai : a.eval ix = vi at hvi
  cases hv with
  | @agg _ us h1 h2 h3 =>
  cases hvi with
  | t h => cases h with
    | v h =>
      have hJu : J < us.length := by have := (List.getElem?_eq_some_iff.1 hc).1; omega
      have hg : us[J]? = some us[J] := List.getElem?_eq_getElem hJu
      refine ⟨us[J], val_of (s := Instr.index t (a.eval x) (a.eval ix)) (by unfold execOp; rw [ho]) ?_, h3 J _ _ hc hg⟩
      have e3 : (sizeOf el).run P w = .ok 1 w := run_size hE
      rw [hax, hai]
      have hpart : (part el us.toArray J).run P w = .ok us[J] w := by
        have hag : (Go.isAgg el).run P w = .ok false w := by
          unfold Go.isAgg
          rw [Sem.run_bind, run_underlying hds]
          cases ds <;> simp_all [Result.andThen]
        simp [part, hag, Result.andThen, hg]
      simp only [Instr.index, asIntOf, Sem.run_bind, Sem.run_pure, Result.andThen_ok, run_underlying hu]
      rw [if_pos ⟨by omega, by omega⟩]
      simp only [Sem.run_bind, e3, Result.andThen_ok, Int.toNat_natCast, Nat.mul_one, hpart]
theorem R_buildA {F : List Dl → (Nat → AV) → List Ob → Prop} {acc : List Dl} (hw : wantedA n T ops o = true) (hd : o.dst = some d) {t : TypeId} {parts : Array (Nat × Operand)} (ho : o.op = .build t parts) {len : Nat} {el : TypeId} (hu : P.underlying t = some (.array len el)) {z : Value} {size bytes : Nat} (hI : (P.info? t).map (fun i => (i.zero, i.size, i.bytes)) = some (some z, size, bytes))
    {ez : Option Value} {es eb : Nat} (hE : (P.info? el).map (fun i => (i.zero, i.size, i.bytes)) = some (ez, es, eb)) {places : List (Nat × Nat)} (hp : arrOk es 0 places = true) {zs : List AV} (hz : (ofConst z).flat = some zs) {qs : List (Nat × List AV)} (hq : Parts n T parts.toList qs) {cs : List AV} (hf : fillA places zs qs = some cs)
    (k : RG P ops n F rest (acc ++ [⟨some d, .agg cs, [], []⟩]) (pu T d (.agg cs)) heap) : RG P ops n F (o :: rest) acc T heap :=
  RG.cons hd.symm (fun T' h' hT hH hlen_ => A_buildA (by rw [wanted_eqA hT]; exact hw) hd ho hu hI hE hp hz (Parts.agree hT (fun y hy => by rw [ho]; simpa [Op.operands] using hy) hq) hf (AL.nil ⟨rfl, rfl, rfl⟩)) rfl rfl k
theorem R_index {F : List Dl → (Nat → AV) → List Ob → Prop} {acc : List Dl} (hw : wantedA n T ops o = true) (hd : o.dst = some d) {t : TypeId} {x ix : Operand} (ho : o.op = .index t x ix) {len : Nat} {el : TypeId} (hu : P.underlying t = some (.array len el)) {ds : TypeDesc} (hds : P.underlying el = some ds) (ha : (match ds with | .struct _ | .array _ _ => true | _ => false) = false) {ez : Option Value} {eb : Nat} (hE : (P.info? el).map (fun i => (i.zero, i.size, i.bytes)) = some (ez, 1, eb))
    {kd : IntKind} {I : Int} (hix : evA n T ix = .t (.v (.int kd I))) (h0I : 0 ≤ I) {J : Nat} (hJ : I.toNat = J) (hlt : J < len) {l : List AV} (hx : evA n T x = .agg l) {u : AV} (hc : l[J]? = some u) (k : RG P ops n F rest (acc ++ [⟨some d, u, [], []⟩]) (pu T d u) heap) : RG P ops n F (o :: rest) acc T heap :=
  RG.cons hd.symm (fun T' h' hT hH hlen_ => A_index (by rw [wanted_eqA hT]; exact hw) hd ho hu hds ha hE (by rw [ev_eq hT (by simp [ho, Op.operands, Call.operands])]; exact hix) h0I hJ hlt (by rw [ev_eq hT (by simp [ho, Op.operands, Call.operands])]; exact hx) hc (AL.nil ⟨rfl, rfl, rfl⟩)) rfl rfl k
end
end Go.Proofs.Ytmljglphegeilaa


namespace Go.Proofs.Ytmljglphegeilaa
set_option linter.unusedVariables false
set_option linter.unusedSimpArgs false
set_option linter.unnecessarySimpa false
open Go.RowKit
def lookE (es : List (Int × Int)) (k : Int) : Option Int := (es.find? fun p => decide (p.1 = k)).map (·.2)
theorem findNow_es (k : Int) : ∀ (l : List MapEntry) (es : List (Int × Int)) (i : Nat), l.map (fun e => (e.key, e.val)) = es.map (fun p => (Value.int .i64 p.1, Value.int .i64 p.2)) →
    ∃ r, Instr.findNow (.int .i64) (.int .i64 k) l i = some r ∧ r.map (·.2) = (lookE es k).map (Value.int .i64)
  | [], [], i, _ => ⟨none, rfl, rfl⟩
  | [], _ :: _, _, h => by simp at h
  | _ :: _, [], _, h => by simp at h
  | e :: l, p :: es, i, h => by
    simp only [List.map_cons, List.cons.injEq, Prod.mk.injEq] at h
    obtain ⟨⟨h1, h2⟩, h3⟩ := h
    unfold Instr.findNow
    rw [h1]
    by_cases g : p.1 = k
    · have : Instr.sameNow (.int .i64) (.int .i64 k) (.int .i64 p.1) = some true := by simp [Instr.sameNow, g]
      rw [this]
      refine ⟨some (i, e.val), rfl, ?_⟩
      unfold lookE
      rw [List.find?_cons, decide_eq_true g, h2]; rfl
    · have : Instr.sameNow (.int .i64) (.int .i64 k) (.int .i64 p.1) = some false := by simp [Instr.sameNow]; omega
      rw [this]
      obtain ⟨r, q1, q2⟩ := findNow_es k l es (i + 1) h3
      refine ⟨r, q1, ?_⟩
      unfold lookE at q2 ⊢
      rw [List.find?_cons, decide_eq_false g, q2]
section
variable {P : Program} {w : World}
theorem run_checkKey_int {kt : TypeId} (hk : P.underlying kt = some (.int .i64)) (b : Bool) (d : Nat) (k : Int) : (Instr.checkKey b (d + 1) kt (.int .i64 k)).run P w = .ok () w := by
  simp [Instr.checkKey, run_underlying hk, Result.andThen]
theorem run_findKey_int {kt : TypeId} (hk : P.underlying kt = some (.int .i64)) (k : Int) {l : List MapEntry} {es : List (Int × Int)} (h : l.map (fun e => (e.key, e.val)) = es.map (fun p => (Value.int .i64 p.1, Value.int .i64 p.2))) :
    ∃ r : Option (Nat × Value), (Instr.findKey kt (.int .i64 k) l).run P w = .ok r w ∧ r.map (·.2) = (lookE es k).map (Value.int .i64) := by
  obtain ⟨r, h1, h2⟩ := findNow_es k l es 0 h
  refine ⟨r, ?_, h2⟩
  simp [Instr.findKey, run_underlying hk, Result.andThen, h1]
end
section
variable {P : Program} {ops : Array Oper} {Q : QS} {rest : List Oper} {o : Oper} {n : Fr} {T : Nat → AV} {heap : List Ob} {d : Nat}
theorem A_mkmap (hw : wantedA n T ops o = true) (hd : o.dst = some d) {t : TypeId} (ho : o.op = .makeMap t none) {heap' : List Ob} {N : Nat} (hat : AtL heap N [.mp []] heap') (k : AL P ops Q rest n (pu T d (.mv N)) heap') : AL P ops Q (o :: rest) n T heap := by
  refine AL.act hw hd (fun e a w ρ Z Y hR => ?_) k
  obtain ⟨ρ', k1, k2, k3, k4⟩ := hR.ok.push1 (o := .mp []) hat (w' := w.alloc (.map #[] 0)) (pl := ⟨some ⟨w.heap.size, 0, none⟩, 0, 0⟩) ⟨rfl, rfl, rfl⟩ (by simp) (fun b hb => heap_alloc_old w _ hb) (fun ρ' hN hρ => ⟨w.heap.size, #[], 0, by rw [hN], heap_alloc_new w _, rfl⟩) (fun b hb _ => by simp at hb; subst hb; simp)
  refine ⟨.map (some w.heap.size), _, ρ', Z, Y, ?_, k1, k2, .mv ⟨_, hat.one, Nat.le_refl _⟩ (by rw [k3])⟩
  refine val_of (s := Instr.makeMap t none) (by unfold execOp; rw [ho]; rfl) ?_
  simp [Instr.makeMap, Result.andThen]
theorem HRep.mp {w : World} {ρ : Rho} {Z Y : Nat → Prop} (h : HRep heap w ρ Z Y) {i : Nat} {es : List (Int × Int)} (hi : heap[i]? = some (.mp es)) {v : Value} (hv : Val (Kn heap) ρ w Z Y (.mv i) v) :
    ∃ b arr clock, v = .map (some b) ∧ (ρ i 0).a = some ⟨b, 0, none⟩ ∧ w.heap[b]? = some (.map arr clock) ∧ arr.toList.map (fun e => (e.key, e.val)) = es.map (fun p => (Value.int .i64 p.1, Value.int .i64 p.2)) := by
  obtain ⟨b, arr, c, h1, h2, h3⟩ := h.obs i _ hi
  cases hv with
  | mv hk ha => rw [h1] at ha; cases ha; exact ⟨_, arr, c, rfl, h1, h2, h3⟩
theorem A_lookup (hw : wantedA n T ops o = true) (hd : o.dst = some d) {t : TypeId} {m ix : Operand} (ho : o.op = .lookup t m ix true) {kt et : TypeId} (ht : P.underlying t = some (.map kt et)) (hkt : P.underlying kt = some (.int .i64)) {size bytes : Nat} (hE : (P.info? et).map (fun i => (i.zero, i.size, i.bytes)) = some (some (.int .i64 0), size, bytes))
    {i : Nat} (hm : evA n T m = .mv i) {es : List (Int × Int)} (hi : heap[i]? = some (.mp es)) {k : Int} (hix : evA n T ix = .t (.v (.int .i64 k))) {r : Option Int} (hr : lookE es k = r) {v : Int} {b : Bool} (hv : r.getD 0 = v) (hb : r.isSome = b)
    (k' : AL P ops Q rest n (pu T d (.tup [.t (.v (.int .i64 v)), .t (.v (.bool b))])) heap) : AL P ops Q (o :: rest) n T heap := by
  subst hr hv hb
  refine AL.val hw hd (fun en a w ρ Z Y hR => ?_) k'
  have h1 := hR.eval m
  rw [hm] at h1
  obtain ⟨b, arr, c, e1, e2, e3, e4⟩ := hR.ok.rep.mp hi h1
  have h2 := hR.eval ix
  rw [hix] at h2
  generalize hai : a.eval ix = vi at h2
  cases h2 with
  | t h => cases h with
    | v h =>
      obtain ⟨q, f1, f2⟩ := run_findKey_int (P := P) (w := w) hkt k e4
      obtain ⟨inf, hin, hz, _, _⟩ := info_of hE
      have hzero : (zeroValue et).run P w = .ok (.int .i64 0) w := by simp [zeroValue, typeInfo, hin, hz]
      have hget : (getObj b).run P w = .ok (.map arr c) w := by simp [getObj, Sem.run, e3]
      have hck := run_checkKey_int (P := P) (w := w) hkt arr.isEmpty 9999 k
      refine ⟨.tuple #[.int .i64 ((lookE es k).getD 0), .bool (lookE es k).isSome], val_of (s := Instr.lookup t (a.eval m) (a.eval ix) true) (by unfold execOp; rw [ho]) ?_, .tup (us := [.int .i64 ((lookE es k).getD 0), .bool (lookE es k).isSome]) rfl (fun j x u hj hu => ?_)⟩
      · rw [e1, hai]
        cases q with
        | none =>
          have hl : lookE es k = none := by cases hl : lookE es k <;> rw [hl] at f2 <;> simp at f2 <;> rfl
          simp [Instr.lookup, run_underlying ht, hget, hck, f1, hzero, Result.andThen, hl]
        | some p =>
          obtain ⟨x, hl⟩ : ∃ x, lookE es k = some x := by cases hl : lookE es k <;> rw [hl] at f2 <;> simp at f2; exact ⟨_, rfl⟩
          rw [hl] at f2
          simp at f2
          simp [Instr.lookup, run_underlying ht, hget, hck, f1, Result.andThen, hl, f2]
      · match j with
        | 0 => cases hj; cases hu; exact .t (.v rfl)
        | 1 => cases hj; cases hu; exact .t (.v rfl)
        | j + 2 => simp at hj
theorem A_mapnew (hw : wantedA n T ops o = true) (hd : o.dst = none) {t : TypeId} {m ix x : Operand} (ho : o.op = .mapUpdate t m ix x) {kt et : TypeId} (ht : P.underlying t = some (.map kt et)) (hkt : P.underlying kt = some (.int .i64))
    {i : Nat} (hm : evA n T m = .mv i) {es : List (Int × Int)} (hi : heap[i]? = some (.mp es)) {k v : Int} (hix : evA n T ix = .t (.v (.int .i64 k))) (hx : evA n T x = .t (.v (.int .i64 v))) (hr : lookE es k = none) {heap' : List Ob} (hh : heap.set i (.mp (es ++ [(k, v)])) = heap')
    (k' : AL P ops Q rest n T heap') : AL P ops Q (o :: rest) n T heap := by
  subst hh
  refine AL.unit hw hd (fun en a w ρ Z Y hR => ?_) k'
  have h1 := hR.eval m
  rw [hm] at h1
  obtain ⟨b, arr, c, e1, e2, e3, e4⟩ := hR.ok.rep.mp hi h1
  have h2 := hR.eval ix
  rw [hix] at h2
  have h3 := hR.eval x
  rw [hx] at h3
  generalize hai : a.eval ix = vi at h2
  generalize hax : a.eval x = vx at h3
  have hvi : vi = .int .i64 k := by cases h2 with | t h => cases h with | v h => rfl
  have hvx : vx = .int .i64 v := by cases h3 with | t h => cases h with | v h => rfl
  subst hvi hvx
  obtain ⟨q, f1, f2⟩ := run_findKey_int (P := P) (w := w) hkt k e4
  rw [hr] at f2
  have hq : q = none := by cases q <;> simp at f2; rfl
  subst hq
  have hget : (getObj b).run P w = .ok (.map arr c) w := by simp [getObj, Sem.run, e3]
  have hck := run_checkKey_int (P := P) (w := w) hkt false 9999 k
  have hlt : b < w.heap.size := by
    rcases Nat.lt_or_ge b w.heap.size with h | h
    · exact h
    · rw [Array.getElem?_eq_none h] at e3; cases e3
  have hblk : (Ob.mp es).blk ρ i = some b := by simp [Ob.blk, e2]
  have hset : (setObj b (.map (arr.push ⟨.int .i64 k, .int .i64 v, c⟩) (c + 1))).run P w = .ok () { w with heap := w.heap.setIfInBounds b (.map (arr.push ⟨.int .i64 k, .int .i64 v, c⟩) (c + 1)) } := by simp [setObj, Sem.run, e3]
  have hsame : ∀ b', b' < w.heap.size → (Ob.mp es).blk ρ i ≠ some b' → (w.heap.setIfInBounds b (.map (arr.push ⟨.int .i64 k, .int .i64 v, c⟩) (c + 1)))[b']? = w.heap[b']? := fun b' _ hne => by
    rw [Array.getElem?_setIfInBounds, if_neg (fun e => hne (by rw [hblk, e]))]
  have hval : ∀ x u, Val (Kn heap) ρ w Z Y x u → Val (Kn (heap.set i (.mp (es ++ [(k, v)])))) ρ { w with heap := w.heap.setIfInBounds b (.map (arr.push ⟨.int .i64 k, .int .i64 v, c⟩) (c + 1)) } Z Y x u := fun x u hu =>
    hR.ok.rep.val (fun j q hj => ⟨hj.set hi (by exact Nat.le_refl _), rfl⟩) (fun _ h => h) (fun b' hb' => ⟨hb', hsame b' (hR.ok.rep.ylt b' hb') (hR.ok.rep.notin hi hb')⟩) hu
  refine ⟨{ w with heap := w.heap.setIfInBounds b (.map (arr.push ⟨.int .i64 k, .int .i64 v, c⟩) (c + 1)) }, ρ, Z, Y, ?_, hR.ok.turn hi (Nat.le_refl _) (fun _ _ _ => rfl) ⟨rfl, rfl, rfl⟩ (by simp) hsame ⟨b, arr.push ⟨.int .i64 k, .int .i64 v, c⟩, c + 1, e2, ?_, ?_⟩ (fun b' hb' => .inl hb'), hval⟩
  · unfold execOp
    simp [ho, e1, hai, hax, Instr.mapUpdate, run_underlying ht, hget, hck, f1, hset, Result.andThen]
  · show (w.heap.setIfInBounds b _)[b]? = _
    rw [Array.getElem?_setIfInBounds, if_pos rfl, if_pos hlt]
  · rw [Array.toList_push, List.map_append, e4, List.map_append]; rfl
end
end Go.Proofs.Ytmljglphegeilaa


namespace Go.Proofs.Ytmljglphegeilaa
set_option linter.unusedVariables false
set_option linter.unusedSimpArgs false
set_option linter.unnecessarySimpa false
open Go.RowKit
section
variable {P : Program} {ops : Array Oper} {Q : QS} {rest : List Oper} {o : Oper} {n : Fr} {T : Nat → AV} {heap : List Ob} {d : Nat}
theorem run_append_full (t ot : TypeId) {e : TypeId} (ht : P.underlying t = some (.slice e)) {inf : TypeInfo} (hin : P.info? e = some inf) {z : Value} (hz : inf.zero = some z) (hzs : z.cells.size = inf.size)
    {w : World} {sa : Option Addr} {n : Nat} {xs : List Value} (hrs : Rs w inf.size sa n n xs)
    (xa : Option Addr) (m xc : Nat) {news : List Value} (hr : Rs w inf.size xa m xc news) (hm : 0 < m) (b1 : n + m ≤ maxLen) (b2 : (n + m) * inf.bytes ≤ 140737488355328) :
    ∃ a' c' w', (Builtin.append_ #[t, t] ot #[.slice sa n n, .slice xa m xc]).run P w = .ok (.slice a' (n + m) c') w' ∧ (Res.row a' (n + m) c' e inf.size (xs ++ news)).holds 0 w' ∧ w.grownBy w' none ∧
      (∀ k, (Res.row a' (n + m) c' e inf.size (xs ++ news)).blk = some k → w.heap.size ≤ k ∧ k < w'.heap.size) := by
  have hlen : (xs ++ news).length = (n + m) * inf.size := by rw [List.length_append, hrs.len, hr.len, Nat.add_mul]
  have hsmall : n + m ≤ 9223372036854775807 := by simp only [maxLen] at b1; omega
  cases xa with
  | none => exact absurd (hr.none rfl).1 (by omega)
  | some ax =>
    have hnews : ∀ j u, news[j]? = some u → w.cell? (ax.add j) = some u := hr.cells
    have grown : ∀ (old : Nat), old < n + m → ∀ (row : Option Nat),
        (Res.row (some ⟨w.heap.size, 0, none⟩) (n + m) (grownCap w (n + m) old e) e inf.size (xs ++ news)).holds 0 (w.drew.alloc (.cells (xs.toArray ++ news.toArray ++ Builtin.zeroCells z.cells (grownCap w (n + m) old e - (n + m))) e)) ∧
        w.grownBy (w.drew.alloc (.cells (xs.toArray ++ news.toArray ++ Builtin.zeroCells z.cells (grownCap w (n + m) old e - (n + m))) e)) row := by
      intro old ho row
      have hge := grownCap_ge w (n + m) old e
      have hcm : grownCap w (n + m) old e ≤ maxLen := grownCap_le_maxLen w (n + m) old e b1
      refine ⟨.inr ⟨by omega, hlen, .inr ⟨w.heap.size, _, _, rfl, Nat.zero_le _, heap_alloc_new w.drew _, hge, hcm, ?_, ?_⟩⟩, ⟨rfl, rfl, rfl, by simp, fun k hk _ => heap_alloc_old w.drew _ hk⟩⟩
      · simp only [Array.size_append, List.size_toArray, size_zeroCells, hzs, hrs.len, hr.len, ← Nat.add_mul]
        congr 1
        omega
      · simp only [Array.toList_append, List.append_assoc]
        rw [← List.append_assoc, ← hlen]
        exact List.take_left
    have fresh : ∀ (o : Obj) (nn cc : Nat) (yy : List Value) (k : Nat), (Res.row (some ⟨w.heap.size, 0, none⟩) nn cc e inf.size yy).blk = some k → w.heap.size ≤ k ∧ k < (w.drew.alloc o).heap.size := by
      intro o nn cc yy k hk
      simp [Res.blk] at hk
      obtain ⟨_, hk⟩ := hk
      subst hk
      exact ⟨Nat.le_refl _, by simp⟩
    cases sa with
    | none =>
      obtain ⟨rfl, -⟩ := hrs.none rfl
      have hxs : xs = [] := List.eq_nil_of_length_eq_zero (by simpa using hrs.len)
      subst hxs
      have hrun := run_append_nil (P := P) w t ot e inf z ht hin hz ax m xc news hr.len hnews (by omega) (by omega) (by have hb := b2; simp only [Nat.zero_add] at hb; omega)
      have hgr := grown 0 (by omega) none
      simp only [Nat.zero_add, List.nil_append, Array.empty_append] at hgr ⊢
      exact ⟨_, _, _, hrun, hgr.1, hgr.2, fun k hk => fresh _ _ _ _ k hk⟩
    | some ab =>
      have hrun := run_append_grow (P := P) w t ot e inf z ht hin hz ab n n xs hrs.len hrs.cells ax m xc news hr.len hnews (by omega) (by omega) (growslice_fits (by omega) b2)
      have hgr := grown n (by omega) none
      exact ⟨_, _, _, hrun, hgr.1, hgr.2, fun k hk => fresh _ _ _ _ k hk⟩
theorem A_append_cl (hw : wantedA n T ops o = true) (hd : o.dst = some d) {s x : Operand} {t : TypeId} (ho : o.op = .call { callee := .builtin .append, args := #[s, x], argTypes := #[t, t] })
    {e : TypeId} (ht : P.underlying t = some (.slice e)) {size bytes : Nat} (hI : ∃ z b, (P.info? e).map (fun i => (i.zero, i.size, i.bytes)) = some (some z, size, b) ∧ z.cells.size = size ∧ b = bytes)
    {els : List (List Tr)} (hs : evA n T s = .cl els) {m : Nat} (hl : els.length = m) (hz : ∀ cs ∈ els, cs.length = size) {news : List (List Tr)} (hx : Rd heap size (evA n T x) news) (h0 : 0 < news.length) (b1 : m + news.length ≤ maxLen) (b2 : (m + news.length) * bytes ≤ 140737488355328) {els' : List (List Tr)} (he : els ++ news = els')
    {heap' : List Ob} {N : Nat} (hat : AtL heap N [.row 0 e size els'] heap') {m' : Nat} (hm' : m + news.length = m') (k : AL P ops Q rest n (pu T d (.sl N 0 m')) heap') : AL P ops Q (o :: rest) n T heap := by
  subst hm' he hl
  obtain ⟨z, b, hI, hzs, rfl⟩ := hI
  refine AL.act hw hd (fun en a w ρ Z Y hR => ?_) k
  obtain ⟨inf, hin, hzz, hsz, hby⟩ := info_of hI
  subst hsz hby
  have hrep := hR.ok.rep
  obtain ⟨xa, xc, ys, g1, g2, g3⟩ := hx.open hrep (hR.eval x)
  have hv := hR.eval s
  rw [hs] at hv
  generalize hax : a.eval s = vx at hv
  cases hv with
  | @cl _ sa n0 sz xs hr hzb hn hel =>
  subst hn
  obtain ⟨q1, q2⟩ := resize hz hr hel
  obtain ⟨a', c', w', r1, r2, r3, r4⟩ := run_append_full (P := P) t o.type ht hin hzz hzs q1 xa news.length xc g2 h0 b1 b2
  have hsame : ∀ b, b < w.heap.size → w'.heap[b]? = w.heap[b]? := fun b hb => r3.block b hb (by simp)
  have hzk : ∀ b, Z b → Z b ∧ w'.heap[b]? = w.heap[b]? := fun b hb => ⟨hb, hsame b (hrep.ylt b (hrep.zy b hb))⟩
  have hcap := (rs_of_holds r2).cap
  have hall := (q2.append g3).mono fun _ _ h => Frz.mono hzk h
  have hlen : (els ++ news).length = els.length + news.length := List.length_append
  obtain ⟨ρ', k1, k2, k3, k4⟩ := hR.ok.push1 (o := .row 0 e inf.size (els ++ news)) hat (w' := w') (pl := ⟨a', c', inf.size⟩) ⟨r3.os, r3.tape, r3.output⟩ r3.size hsame
    (fun ρ' hN hρ => ⟨by rw [hN], _, hall, by rw [hN, hlen]; exact r2⟩)
    (fun b _ hb => r4 b (by simpa [Ob.blk, Res.blk] using hb))
  refine ⟨.slice a' (els.length + news.length) c', w', ρ', Z, Y, ?_, k1, k2, ?_⟩
  · unfold execOp
    simp only [ho, resolve, invoke, builtin, Sem.run_bind, Sem.run_pure, Result.andThen_ok, List.map_toArray, List.map_cons, List.map_nil, hax, g1, r1]
  · have := Val.sl (Kn := Kn heap') (ρ := ρ') (w := w') (Z := Z) (Y := Y) (i := N) (k := 0) (n := els.length + news.length) ⟨_, hat.one, Nat.le_refl _⟩ (by rw [k3]; exact hcap) (by rw [k3]; exact fun e => ((rs_of_holds r2).none e).2)
    rw [k3] at this
    exact this
theorem A_clip (hw : wantedA n T ops o = true) (hd : o.dst = some d) {t : TypeId} {x hi mx : Operand} (ho : o.op = .slice t x none (some hi) (some mx)) {e : TypeId} (ht : P.underlying t = some (.slice e)) {z : Option Value} {size bytes : Nat} (hI : (P.info? e).map (fun i => (i.zero, i.size, i.bytes)) = some (z, size, bytes))
    {els : List (List Tr)} (hx : evA n T x = .t (.lst els)) (hs : ∀ cs ∈ els, cs.length = size) {kd kd' : IntKind} {m m' : Nat} (h1 : evA n T hi = .t (.v (.int kd (m : Int)))) (h2 : evA n T mx = .t (.v (.int kd' (m' : Int)))) (hm : els.length = m) (hm' : els.length = m')
    (k : AL P ops Q rest n (pu T d (.cl els)) heap) : AL P ops Q (o :: rest) n T heap := by
  subst hm hm'
  refine AL.val hw hd (fun en a w ρ Z Y hR => ?_) k
  have lv : ∀ {y : Operand} {kd : IntKind} {q : Int}, evA n T y = .t (.v (.int kd q)) → a.eval y = .int kd q := fun {y kd q} e1 => by
    have := hR.eval y
    rw [e1] at this
    generalize a.eval y = v at this
    cases this with
    | t h => cases h; rfl
  have hv := hR.eval x
  rw [hx] at hv
  generalize hax : a.eval x = vx at hv
  cases hv with
  | t hv =>
  obtain ⟨sa, c, s, xs, g1, g2, g3, g4⟩ := hv.open
  subst g1
  have g2' : Rs w s sa els.length els.length xs := ⟨Nat.le_refl _, Nat.le_trans g2.cap g2.most, fun e => ⟨(g2.none e).1, (g2.none e).1⟩, g2.len, g2.cells⟩
  obtain ⟨xs', q1, q2, q3⟩ := cut_rs (l := 0) (h := els.length) hs g2' g4 (Nat.zero_le _) (Nat.le_refl _)
  have ht' : P.underlying t = some (.slice (P.elem t)) := by rw [elem_of ht]; exact ht
  have hcap := g2.cap
  refine ⟨.slice (if els.length = 0 then sa else sa.map (·.add (0 * size))) (els.length - 0) (els.length - 0), val_of (s := Instr.sliceAt t (a.eval x) none (some (a.eval hi)) (some (a.eval mx))) (by unfold execOp; rw [ho]; rfl) ?_, ?_⟩
  · rw [hax, lv h1, lv h2, run_sliceAt_slice w t _ _ _ _ ht']
    simp [Instr.slice, Instr.sliceBounds, Instr.sliceBound, run_underlying ht, run_size hI, Result.andThen, hcap, asIntOf]
  · rw [Nat.sub_zero, List.drop_zero, List.take_length] at *
    exact .cl q1 (fun hne => by rw [(q3 hne).2]; exact g3 (q3 hne).1) rfl q2
theorem cl_one {α : Type} {f : α → List Tr} {x : α} {l : List α} : l.map f ++ [f x] = (l ++ [x]).map f := by simp
theorem A_append_clU (hw : wantedA n T ops o = true) (hd : o.dst = some d) (s x : Operand) (t : TypeId) (ho : o.op = .call { callee := .builtin .append, args := #[s, x], argTypes := #[t, t] })
    {e : TypeId} (ht : P.underlying t = some (.slice e)) {z : Value} {size bytes : Nat} (hI : (P.info? e).map (fun i => (i.zero, i.size, i.bytes)) = some (some z, size, bytes)) (hzs : z.cells.size = size)
    {els : List (List Tr)} (hs : evA n T s = .cl els) {m : Nat} (hl : els.length = m) (hz : ∀ cs ∈ els, cs.length = size) {news : List (List Tr)} (hx : Rd heap size (evA n T x) news) (h0 : 0 < news.length) (b1 : m + news.length ≤ maxLen) (b2 : (m + news.length) * bytes ≤ 140737488355328) {els' : List (List Tr)} (he : els ++ news = els')
    {heap' : List Ob} {N : Nat} (hat : AtL heap N [.row 0 e size els'] heap') {m' : Nat} (hm' : m + news.length = m') (k : AL P ops Q rest n (pu T d (.sl N 0 m')) heap') : AL P ops Q (o :: rest) n T heap :=
  A_append_cl hw hd ho ht ⟨z, bytes, hI, hzs, rfl⟩ hs hl hz hx h0 b1 b2 he hat hm' k
theorem R_append_cl {F : List Dl → (Nat → AV) → List Ob → Prop} {acc : List Dl} (hw : wantedA n T ops o = true) (hd : o.dst = some d) (s x : Operand) (t : TypeId) (ho : o.op = .call { callee := .builtin .append, args := #[s, x], argTypes := #[t, t] })
    {e : TypeId} (ht : P.underlying t = some (.slice e)) {z : Value} {size bytes : Nat} (hI : (P.info? e).map (fun i => (i.zero, i.size, i.bytes)) = some (some z, size, bytes)) (hzs : z.cells.size = size)
    {els : List (List Tr)} (hs : evA n T s = .cl els) {m : Nat} (hl : els.length = m) (hz : ∀ cs ∈ els, cs.length = size) {news : List (List Tr)} (hx : Rd heap size (evA n T x) news) (h0 : 0 < news.length) (b1 : m + news.length ≤ maxLen) (b2 : (m + news.length) * bytes ≤ 140737488355328) {els' : List (List Tr)} (he : els ++ news = els')
    {heap' : List Ob} {N : Nat} (hat : heap[N]? = some .hole) (hh : heap.set N (.row 0 e size els') = heap') {m' : Nat} (hm' : m + news.length = m')
    (k : RG P ops n F rest (acc ++ [⟨some d, (.sl N 0 m'), [(N, .row 0 e size els')], (N :: idsA (evA n T x))⟩]) (pu T d (.sl N 0 m')) heap') : RG P ops n F (o :: rest) acc T heap := by
  exact RG.cons hd.symm (fun T' h' hT hH hlen_ => A_append_clU (by rw [wanted_eqA hT]; exact hw) hd s x t ho ht hI hzs (by rw [ev_eq hT (by simp [ho, Op.operands, Call.operands])]; exact hs) hl hz (Rd.agree (fun i hi => hH i (by rw [ev_eq hT (by simp [ho, Op.operands, Call.operands])] at hi; simp [hi])) (by rw [ev_eq hT (by simp [ho, Op.operands, Call.operands])]; exact hx)) h0 b1 b2 he (.fill (at_hole (by rw [hH N (by simp)]; exact hat)) (setsAt_one (by rw [hH N (by simp)]; exact hat))) hm' (AL.nil ⟨rfl, rfl, rfl⟩)) rfl (by first | rfl | exact hh) k
theorem R_clip {F : List Dl → (Nat → AV) → List Ob → Prop} {acc : List Dl} (hw : wantedA n T ops o = true) (hd : o.dst = some d) {t : TypeId} {x hi mx : Operand} (ho : o.op = .slice t x none (some hi) (some mx)) {e : TypeId} (ht : P.underlying t = some (.slice e)) {z : Option Value} {size bytes : Nat} (hI : (P.info? e).map (fun i => (i.zero, i.size, i.bytes)) = some (z, size, bytes))
    {els : List (List Tr)} (hx : evA n T x = .t (.lst els)) (hs : ∀ cs ∈ els, cs.length = size) {kd kd' : IntKind} {m m' : Nat} (h1 : evA n T hi = .t (.v (.int kd (m : Int)))) (h2 : evA n T mx = .t (.v (.int kd' (m' : Int)))) (hm : els.length = m) (hm' : els.length = m')
    (k : RG P ops n F rest (acc ++ [⟨some d, .cl els, [], []⟩]) (pu T d (.cl els)) heap) : RG P ops n F (o :: rest) acc T heap := by
  exact RG.cons hd.symm (fun T' h' hT hH hlen_ => A_clip (by rw [wanted_eqA hT]; exact hw) hd ho ht hI (by rw [ev_eq hT (by simp [ho, Op.operands, Call.operands])]; exact hx) hs (by rw [ev_eq hT (by simp [ho, Op.operands, Call.operands])]; exact h1) (by rw [ev_eq hT (by simp [ho, Op.operands, Call.operands])]; exact h2) hm hm' (AL.nil ⟨rfl, rfl, rfl⟩)) rfl rfl k
end
end Go.Proofs.Ytmljglphegeilaa


namespace Go.Proofs.Ytmljglphegeilaa
set_option linter.unusedVariables false
set_option linter.unusedSimpArgs false
set_option linter.unnecessarySimpa false
open Go.RowKit
set_option maxRecDepth 100000
class Ud (P : Program) (t : TypeId) (u : outParam TypeDesc) : Type where
  h : P.underlying t = some u
class In (P : Program) (t : TypeId) (z : outParam (Option Value)) (s b : outParam Nat) : Type where
  h : (P.info? t).map (fun i => (i.zero, i.size, i.bytes)) = some (z, s, b)
class Zr (P : Program) (t : TypeId) (cs : outParam (List AV)) : Type where
  h : ∃ z s b, (P.info? t).map (fun i => (i.zero, i.size, i.bytes)) = some (some z, s, b) ∧ (ofConst z).flat = some cs ∧ z.cells.size = s
class Bp (P : Program) (t : TypeId) (pl : outParam (List (Nat × Nat))) : Type where
  h : ∃ fs, P.underlying t = some (.struct fs) ∧ fs.toList.map (fun f => (f.offset, (P.info? f.type).map (·.size))) = pl.map (fun x => (x.1, some x.2))
class Ba (P : Program) (t : TypeId) (es : outParam Nat) (pl : outParam (List (Nat × Nat))) : Type where
  h : ∃ len el ez eb, P.underlying t = some (.array len el) ∧ (P.info? el).map (fun i => (i.zero, i.size, i.bytes)) = some (ez, es, eb) ∧ arrOk es 0 pl = true
structure ZK (q : Prop) : Prop where
  o : q
theorem qJ {P : Prop} (h : P := by first | with_reducible exact Int.toNat_natCast _ | (simp only [Int.reduceToNat]; exact rfl) | exact rfl | fail) : P := h
inductive Sk : Nat → List Tr → List Tr → Prop
  | z {l : List Tr} : Sk 0 l l
  | s {n : Nat} {a : Tr} {l r : List Tr} (h : Sk n l r) : Sk (n + 1) (a :: l) r
inductive Tm : Nat → List Tr → List AV → Prop
  | z {l : List Tr} : Tm 0 l []
  | s {n : Nat} {a : Tr} {l : List Tr} {r : List AV} (h : Tm n l r) : Tm (n + 1) (a :: l) (.t a :: r)
inductive Tl : List Tr → List AV → Prop
  | z : Tl [] []
  | s {a : Tr} {l : List Tr} {r : List AV} (h : Tl l r) : Tl (a :: l) (.t a :: r)
theorem Sk.get {n : Nat} {l r : List Tr} (h : Sk n l r) : l.drop n = r := by
  induction h with
  | z => rfl
  | s h ih => exact ih
theorem Tm.get {n : Nat} {l : List Tr} {r : List AV} (h : Tm n l r) : (l.take n).map .t = r ∧ r.length = n := by
  induction h with
  | z => exact ⟨rfl, rfl⟩
  | s h ih => exact ⟨by rw [List.take_succ_cons, List.map_cons, ih.1], by rw [List.length_cons, ih.2]⟩
theorem Tl.get {l : List Tr} {r : List AV} (h : Tl l r) : l.map .t = r := by
  induction h with
  | z => rfl
  | s h ih => rw [List.map_cons, ih]
inductive Fl (pl : List (Nat × Nat)) : List AV → List (Nat × List AV) → List AV → Prop
  | nil {c : List AV} : Fl pl c [] c
  | cons {c : List AV} {i off s : Nat} {cs c' r : List AV} {qs : List (Nat × List AV)} (hp : pl[i]? = some (off, s)) (hl : cs.length = s) (hf : off + cs.length ≤ c.length) (hc : c.take off ++ cs ++ c.drop (off + cs.length) = c') (k : Fl pl c' qs r) : Fl pl c ((i, cs) :: qs) r
theorem Fl.get {pl : List (Nat × Nat)} {c r : List AV} {qs : List (Nat × List AV)} (h : Fl pl c qs r) : fillA pl c qs = some r := by
  induction h with
  | nil => rfl
  | cons hp hl hf hc k ih =>
    unfold fillA
    rw [hp]
    simp only [Nat.ble_eq_true_of_le hf, hl, Nat.beq_refl, Bool.and_self, cond_true]
    rw [hl] at hc hf
    rw [hc, ih, Nat.ble_eq_true_of_le hf]
    rfl
inductive FAt : List Field → Nat → TypeId → Nat → Prop
  | z {nm tag pk : String} {ty : TypeId} {off bo : Nat} {em : Bool} {l : List Field} : FAt (⟨nm, ty, off, em, tag, pk, bo⟩ :: l) 0 ty off
  | s {x : Field} {l : List Field} {f : Nat} {ty : TypeId} {off : Nat} (h : FAt l f ty off) : FAt (x :: l) (f + 1) ty off
theorem FAt.get {l : List Field} {f : Nat} {ty : TypeId} {off : Nat} (h : FAt l f ty off) : ∃ fd, l[f]? = some fd ∧ fd.type = ty ∧ fd.offset = off := by
  induction h with
  | z => exact ⟨_, rfl, rfl, rfl⟩
  | s h ih => obtain ⟨fd, h1, h2⟩ := ih; exact ⟨fd, by simpa using h1, h2⟩
theorem FAt.arr {fs : Array Field} {f : Nat} {ty : TypeId} {off : Nat} (h : FAt fs.toList f ty off) : ∃ fd, fs[f]? = some fd ∧ fd.type = ty ∧ fd.offset = off := by
  obtain ⟨fd, h1, h2⟩ := h.get
  exact ⟨fd, by rw [← Array.getElem?_toList]; exact h1, h2⟩
def isHo : Ob → Bool
  | .hole => true
  | _ => false
def fh : List Ob → Nat
  | [] => 0
  | o :: l => bif isHo o then 0 else fh l + 1
theorem fh_at : ∀ (l : List Ob), fh l < l.length → l[fh l]? = some .hole
  | [], h => absurd h (Nat.lt_irrefl _)
  | o :: l, h => by
    cases ho : isHo o
    · have e : fh (o :: l) = fh l + 1 := by show (bif isHo o then 0 else fh l + 1) = _; rw [ho]; rfl
      rw [e] at h ⊢
      rw [List.getElem?_cons_succ]
      exact fh_at l (Nat.lt_of_succ_lt_succ h)
    · have e : fh (o :: l) = 0 := by show (bif isHo o then 0 else fh l + 1) = _; rw [ho]; rfl
      rw [e]
      cases o <;> first | rfl | cases ho
theorem qh {heap : List Ob} {N : Nat} (h : fh heap = N := by first | (simp only [fh, isHo, cond_true, cond_false, Nat.zero_add, Nat.reduceAdd]; exact rfl) | fail) (h2 : Nat.blt N heap.length = true := by first | exact rfl | fail) : heap[N]? = some .hole := by
  subst h; exact fh_at heap (by unfold Nat.blt at h2; exact Nat.le_of_ble_eq_true h2)
theorem qG {P : Prop} (h : P := by first | ((repeat (first | exact FAt.z | apply FAt.s)); (first | done | fail)) | fail) : P := h
def isAg : TypeDesc → Bool
  | .struct _ => true
  | .array _ _ => true
  | _ => false
def addN (s : List Nat) (x : Nat) : List Nat := bif s.contains x then s else x :: s
def ancL (A : List (List Nat)) : List Oper → List (List Nat)
  | [] => A
  | o :: l => ancL (A ++ [(directs o).foldl (fun s d => (d :: A.getD d []).foldl addN s) []]) l
section
variable {P : Program} {ops : Array Oper} {Q : QS} {rest : List Oper} {o : Oper} {n : Fr} {T : Nat → AV} {heap : List Ob} {d : Nat} {F : List Dl → (Nat → AV) → List Ob → Prop} {acc : List Dl}
theorem notD {p : Prop} [Decidable p] (h : (!decide p) = true) : ¬ p := by simpa using h
theorem notE {p : Prop} [Decidable p] (h : (!decide p) = false) : p := by simpa using h
theorem notB {b : Bool} (h : (!b) = true) : b = false := by simpa using h
theorem notC {b : Bool} (h : (!b) = false) : b = true := by simpa using h
theorem A_fieldU (hw : wantedA n T ops o = true) (hd : o.dst = some d) {t : TypeId} {x : Operand} {f : Nat} (ho : o.op = .fieldAddr t x f) {fs : Array Field} (hu : P.underlying t = some (.struct fs)) {ft m : Nat} (hf : FAt fs.toList f ft m) {z : Option Value} {size bytes : Nat} (hI : (P.info? ft).map (fun i => (i.zero, i.size, i.bytes)) = some (z, size, bytes)) (hs : size ≠ 0) {y : AV} (hy : shiftA m (evA n T x) = some y) (k : AL P ops Q rest n (pu T d y) heap) : AL P ops Q (o :: rest) n T heap := (by obtain ⟨fd, h1, h2, h3⟩ := hf.arr; exact A_field hw hd t x f ho hu h1 (by rw [h2]; exact hI) hs m h3 hy k)
theorem R_fieldU (hw : wantedA n T ops o = true) (hd : o.dst = some d) {t : TypeId} {x : Operand} {f : Nat} (ho : o.op = .fieldAddr t x f) {fs : Array Field} (hu : P.underlying t = some (.struct fs)) {ft m : Nat} (hf : FAt fs.toList f ft m) {z : Option Value} {size bytes : Nat} (hI : (P.info? ft).map (fun i => (i.zero, i.size, i.bytes)) = some (z, size, bytes)) (hs : size ≠ 0) {y : AV} (hy : shiftA m (evA n T x) = some y) (k : RG P ops n F rest (acc ++ [⟨some d, y, [], []⟩]) (pu T d y) heap) : RG P ops n F (o :: rest) acc T heap := (by obtain ⟨fd, h1, h2, h3⟩ := hf.arr; exact R_field hw hd t x f ho hu h1 (by rw [h2]; exact hI) hs m h3 hy k)
theorem A_getU (hw : wantedA n T ops o = true) (hd : o.dst = some d) {t : TypeId} {x : Operand} {f : Nat} (ho : o.op = .field t x f) {fs : Array Field} (hu : P.underlying t = some (.struct fs)) {ft m : Nat} (hf : FAt fs.toList f ft m) {ds : TypeDesc} (hds : P.underlying ft = some ds) (ha : isAg ds = false) {l : List AV} (hx : evA n T x = .agg l) {u : AV} (hc : l[m]? = some u) (k : AL P ops Q rest n (pu T d u) heap) : AL P ops Q (o :: rest) n T heap := (by obtain ⟨fd, h1, h2, h3⟩ := hf.arr; exact A_get (ds := ds) hw hd t x f ho hu h1 (by cases ds <;> exact ha) (by rw [h2]; exact hds) h3 hx hc k)
theorem R_getU (hw : wantedA n T ops o = true) (hd : o.dst = some d) {t : TypeId} {x : Operand} {f : Nat} (ho : o.op = .field t x f) {fs : Array Field} (hu : P.underlying t = some (.struct fs)) {ft m : Nat} (hf : FAt fs.toList f ft m) {ds : TypeDesc} (hds : P.underlying ft = some ds) (ha : isAg ds = false) {l : List AV} (hx : evA n T x = .agg l) {u : AV} (hc : l[m]? = some u) (k : RG P ops n F rest (acc ++ [⟨some d, u, [], []⟩]) (pu T d u) heap) : RG P ops n F (o :: rest) acc T heap := (by obtain ⟨fd, h1, h2, h3⟩ := hf.arr; exact R_get (ds := ds) hw hd t x f ho hu h1 (by cases ds <;> exact ha) (by rw [h2]; exact hds) h3 hx hc k)
theorem A_get_aggU (hw : wantedA n T ops o = true) (hd : o.dst = some d) {t : TypeId} {x : Operand} {f : Nat} (ho : o.op = .field t x f) {fs : Array Field} (hu : P.underlying t = some (.struct fs)) {ft m : Nat} (hf : FAt fs.toList f ft m) {ds : TypeDesc} (hds : P.underlying ft = some ds) (ha : isAg ds = true) {z : Option Value} {size bytes : Nat} (hI : (P.info? ft).map (fun i => (i.zero, i.size, i.bytes)) = some (z, size, bytes)) {l : List AV} (hx : evA n T x = .agg l) {us' : List AV} (hc : (l.drop m).take size = us') (k : AL P ops Q rest n (pu T d (.agg us')) heap) : AL P ops Q (o :: rest) n T heap := (by obtain ⟨fd, h1, h2, h3⟩ := hf.arr; exact A_get_agg (ds := ds) hw hd t x f ho hu h1 (by cases ds <;> exact ha) (by rw [h2]; exact hds) (by rw [h2]; exact hI) h3 hx hc k)
theorem R_get_aggU (hw : wantedA n T ops o = true) (hd : o.dst = some d) {t : TypeId} {x : Operand} {f : Nat} (ho : o.op = .field t x f) {fs : Array Field} (hu : P.underlying t = some (.struct fs)) {ft m : Nat} (hf : FAt fs.toList f ft m) {ds : TypeDesc} (hds : P.underlying ft = some ds) (ha : isAg ds = true) {z : Option Value} {size bytes : Nat} (hI : (P.info? ft).map (fun i => (i.zero, i.size, i.bytes)) = some (z, size, bytes)) {l : List AV} (hx : evA n T x = .agg l) {us' : List AV} (hc : (l.drop m).take size = us') (k : RG P ops n F rest (acc ++ [⟨some d, (.agg us'), [], []⟩]) (pu T d (.agg us')) heap) : RG P ops n F (o :: rest) acc T heap := (by obtain ⟨fd, h1, h2, h3⟩ := hf.arr; exact R_get_agg (ds := ds) hw hd t x f ho hu h1 (by cases ds <;> exact ha) (by rw [h2]; exact hds) (by rw [h2]; exact hI) h3 hx hc k)
theorem A_load_rp_aggU (hw : wantedA n T ops o = true) (hd : o.dst = some d) {t : TypeId} {x : Operand} (ho : o.op = .load t x) {ds : TypeDesc} (hu : P.underlying t = some ds) (hds : isAg ds = true) {z : Option Value} {size bytes : Nat} (hI : (P.info? t).map (fun i => (i.zero, i.size, i.bytes)) = some (z, size, bytes)) {i k' idx off : Nat} (hx : evA n T x = .rp i k' idx off) {E : TypeId} {s : Nat} {els : List (List Tr)} (hi : heap[i]? = some (.row k' E s els)) {cs : List Tr} (he : els[idx]? = some cs) {cs' : List Tr} (h1 : Sk off cs cs') {us' : List AV} (h2 : Tm size cs' us') (k : AL P ops Q rest n (pu T d (.agg us')) heap) : AL P ops Q (o :: rest) n T heap := A_load_rp_agg (ds := ds) hw hd t x ho hu (by cases ds <;> exact hds) hI hx hi he (by rw [h1.get]; exact h2.get.1) h2.get.2 k
theorem R_load_rp_aggU (hw : wantedA n T ops o = true) (hd : o.dst = some d) {t : TypeId} {x : Operand} (ho : o.op = .load t x) {ds : TypeDesc} (hu : P.underlying t = some ds) (hds : isAg ds = true) {z : Option Value} {size bytes : Nat} (hI : (P.info? t).map (fun i => (i.zero, i.size, i.bytes)) = some (z, size, bytes)) {i k' idx off : Nat} (hx : evA n T x = .rp i k' idx off) {E : TypeId} {s : Nat} {els : List (List Tr)} (hi : heap[i]? = some (.row k' E s els)) {cs : List Tr} (he : els[idx]? = some cs) {cs' : List Tr} (h1 : Sk off cs cs') {us' : List AV} (h2 : Tm size cs' us') (k : RG P ops n F rest (acc ++ [⟨some d, (.agg us'), [], [i]⟩]) (pu T d (.agg us')) heap) : RG P ops n F (o :: rest) acc T heap := R_load_rp_agg (ds := ds) hw hd t x ho hu (by cases ds <;> exact hds) hI hx hi he (by rw [h1.get]; exact h2.get.1) h2.get.2 k
theorem A_idxU (hw : wantedA n T ops o = true) (hd : o.dst = some d) {t : TypeId} {x ix : Operand} (ho : o.op = .indexAddr t x ix) {e : TypeId} (ht : P.underlying t = some (.slice e)) {z : Option Value} {size bytes : Nat} (hI : (P.info? e).map (fun i => (i.zero, i.size, i.bytes)) = some (z, size, bytes)) (hsz : size ≠ 0) {els : List (List Tr)} (hx : evA n T x = .ln els ∨ evA n T x = .t (.lst els)) {kd : IntKind} {I : Int} (hix : evA n T ix = .t (.v (.int kd I))) (h0I : 0 ≤ I) {J : Nat} (hJ : I.toNat = J) {cs : List Tr} (he : els[J]? = some cs) (hs : cs.length = size) {cs' : List AV} (hc : Tl cs cs') (k : AL P ops Q rest n (pu T d (.lp cs')) heap) : AL P ops Q (o :: rest) n T heap := A_idx hw hd t x ix ho ht hI hsz hx hix h0I J hJ he hs hc.get k
theorem R_idxU (hw : wantedA n T ops o = true) (hd : o.dst = some d) {t : TypeId} {x ix : Operand} (ho : o.op = .indexAddr t x ix) {e : TypeId} (ht : P.underlying t = some (.slice e)) {z : Option Value} {size bytes : Nat} (hI : (P.info? e).map (fun i => (i.zero, i.size, i.bytes)) = some (z, size, bytes)) (hsz : size ≠ 0) {els : List (List Tr)} (hx : evA n T x = .ln els ∨ evA n T x = .t (.lst els)) {kd : IntKind} {I : Int} (hix : evA n T ix = .t (.v (.int kd I))) (h0I : 0 ≤ I) {J : Nat} (hJ : I.toNat = J) {cs : List Tr} (he : els[J]? = some cs) (hs : cs.length = size) {cs' : List AV} (hc : Tl cs cs') (k : RG P ops n F rest (acc ++ [⟨some d, (.lp cs'), [], []⟩]) (pu T d (.lp cs')) heap) : RG P ops n F (o :: rest) acc T heap := R_idx hw hd t x ix ho ht hI hsz hx hix h0I J hJ he hs hc.get k
theorem A_allocU (hw : wantedA n T ops o = true) (hd : o.dst = some d) {t : TypeId} (ho : o.op = .alloc t) {cs : List AV} (hz : ∃ z s b, (P.info? t).map (fun i => (i.zero, i.size, i.bytes)) = some (some z, s, b) ∧ (ofConst z).flat = some cs ∧ z.cells.size = s) {heap' : List Ob} {N : Nat} (hat : AtL heap N [.box t cs] heap') (k : AL P ops Q rest n (pu T d (.ptr N 0)) heap') : AL P ops Q (o :: rest) n T heap := by obtain ⟨z, s, b, h1, h2, _⟩ := hz; exact A_alloc hw hd t ho h1 h2 hat k
theorem R_allocU (hw : wantedA n T ops o = true) (hd : o.dst = some d) {t : TypeId} (ho : o.op = .alloc t) {cs : List AV} (hz : ∃ z s b, (P.info? t).map (fun i => (i.zero, i.size, i.bytes)) = some (some z, s, b) ∧ (ofConst z).flat = some cs ∧ z.cells.size = s) {heap' : List Ob} {N : Nat} (hat : heap[N]? = some .hole) (hh : heap.set N (.box t cs) = heap') (k : RG P ops n F rest (acc ++ [⟨some d, (.ptr N 0), [(N, .box t cs)], [N]⟩]) (pu T d (.ptr N 0)) heap') : RG P ops n F (o :: rest) acc T heap := by obtain ⟨z, s, b, h1, h2, _⟩ := hz; exact R_alloc hw hd t ho h1 h2 hat hh k
theorem A_buildU (hw : wantedA n T ops o = true) (hd : o.dst = some d) {t : TypeId} {parts : Array (Nat × Operand)} (ho : o.op = .build t parts) {pl : List (Nat × Nat)} (hb : ∃ fs, P.underlying t = some (.struct fs) ∧ fs.toList.map (fun f => (f.offset, (P.info? f.type).map (·.size))) = pl.map (fun x => (x.1, some x.2))) {zs : List AV} (hz : ∃ z s b, (P.info? t).map (fun i => (i.zero, i.size, i.bytes)) = some (some z, s, b) ∧ (ofConst z).flat = some zs ∧ z.cells.size = s) {qs : List (Nat × List AV)} (hq : Parts n T parts.toList qs) {cs : List AV} (hf : Fl pl zs qs cs) (k : AL P ops Q rest n (pu T d (.agg cs)) heap) : AL P ops Q (o :: rest) n T heap := by obtain ⟨z, s, b, h1, h2, _⟩ := hz; obtain ⟨fs, h3, h4⟩ := hb; exact A_build hw hd t parts ho h3 h1 pl h4 h2 hq hf.get k
theorem A_buildB (hw : wantedA n T ops o = true) (hd : o.dst = some d) {t : TypeId} {parts : Array (Nat × Operand)} (ho : o.op = .build t parts) {es : Nat} {pl : List (Nat × Nat)} (hb : ∃ len el ez eb, P.underlying t = some (.array len el) ∧ (P.info? el).map (fun i => (i.zero, i.size, i.bytes)) = some (ez, es, eb) ∧ arrOk es 0 pl = true) {zs : List AV} (hz : ∃ z s b, (P.info? t).map (fun i => (i.zero, i.size, i.bytes)) = some (some z, s, b) ∧ (ofConst z).flat = some zs ∧ z.cells.size = s) {qs : List (Nat × List AV)} (hq : Parts n T parts.toList qs) {cs : List AV} (hf : Fl pl zs qs cs) (k : AL P ops Q rest n (pu T d (.agg cs)) heap) : AL P ops Q (o :: rest) n T heap := by obtain ⟨z, s, b, h1, h2, _⟩ := hz; obtain ⟨len, el, ez, eb, h3, h4, h5⟩ := hb; exact A_buildA hw hd ho h3 h1 h4 h5 h2 hq hf.get k
theorem R_buildU (hw : wantedA n T ops o = true) (hd : o.dst = some d) {t : TypeId} {parts : Array (Nat × Operand)} (ho : o.op = .build t parts) {pl : List (Nat × Nat)} (hb : ∃ fs, P.underlying t = some (.struct fs) ∧ fs.toList.map (fun f => (f.offset, (P.info? f.type).map (·.size))) = pl.map (fun x => (x.1, some x.2))) {zs : List AV} (hz : ∃ z s b, (P.info? t).map (fun i => (i.zero, i.size, i.bytes)) = some (some z, s, b) ∧ (ofConst z).flat = some zs ∧ z.cells.size = s) {qs : List (Nat × List AV)} (hq : Parts n T parts.toList qs) {cs : List AV} (hf : Fl pl zs qs cs) (k : RG P ops n F rest (acc ++ [⟨some d, (.agg cs), [], []⟩]) (pu T d (.agg cs)) heap) : RG P ops n F (o :: rest) acc T heap := by obtain ⟨z, s, b, h1, h2, _⟩ := hz; obtain ⟨fs, h3, h4⟩ := hb; exact R_build hw hd t parts ho h3 h1 pl h4 h2 hq hf.get k
theorem R_buildB (hw : wantedA n T ops o = true) (hd : o.dst = some d) {t : TypeId} {parts : Array (Nat × Operand)} (ho : o.op = .build t parts) {es : Nat} {pl : List (Nat × Nat)} (hb : ∃ len el ez eb, P.underlying t = some (.array len el) ∧ (P.info? el).map (fun i => (i.zero, i.size, i.bytes)) = some (ez, es, eb) ∧ arrOk es 0 pl = true) {zs : List AV} (hz : ∃ z s b, (P.info? t).map (fun i => (i.zero, i.size, i.bytes)) = some (some z, s, b) ∧ (ofConst z).flat = some zs ∧ z.cells.size = s) {qs : List (Nat × List AV)} (hq : Parts n T parts.toList qs) {cs : List AV} (hf : Fl pl zs qs cs) (k : RG P ops n F rest (acc ++ [⟨some d, (.agg cs), [], []⟩]) (pu T d (.agg cs)) heap) : RG P ops n F (o :: rest) acc T heap := by obtain ⟨z, s, b, h1, h2, _⟩ := hz; obtain ⟨len, el, ez, eb, h3, h4, h5⟩ := hb; exact R_buildA hw hd ho h3 h1 h4 h5 h2 hq hf.get k
theorem zkM (m : Nat) (k : AL P ops Q (o :: rest) n T heap) (h : opKind o % 32 = m := by first | exact rfl | fail) : AL P ops Q (o :: rest) n T heap := (fun _ => k) h
theorem zkN {ac : List Dl} (m : Nat) (k : RG P ops n F (o :: rest) ac T heap) (h : opKind o % 32 = m := by first | exact rfl | fail) : RG P ops n F (o :: rest) ac T heap := (fun _ => k) h
theorem AW.drawU {id : Nat} {l : List Oper} (hm : P.follows .mixedOrders = true) (m : Nat) {h1 : List Ob} (hh : heap ++ List.replicate m .hole = h1) (hr : RG P l.toArray n (fun Ds T2 h2 => chkD l (ancL [] l) (W_ Ds) = true ∧ Q .normal T2 h2) l [] T h1) : AW P (.region id l.toArray true) Q n T heap := AW.at_draw id hm m _ hh hr
theorem uK {f : FuncId} {fn : Func} {args : Array Operand} {tys : Array TypeId} {xs : List AV} {r : AV} {L : List Ob} (hc : Cd P f xs r L) {N : Nat} {r' : AV} {L' heap' : List Ob} (k : AL P ops Q rest n (pu T d r') heap') (ho : o.op = .call { callee := .value (.func f), args := args, argTypes := tys } := by first | exact rfl | fail) (hw : wantedA n T ops o = true := by first | exact rfl | fail) (hd : o.dst = some d := by first | exact rfl | fail) (hf : P.funcs[f]? = some fn := by first | exact rfl | fail) (hn : (fn.name == "runtime.NumGoroutine") = false := by first | kernel_rfl | fail) (hb : fn.body.isNone = false := by first | kernel_rfl | fail) (hp : PassL heap [] (args.toList.map (evA n T)) xs := by first | ((repeat' (first | exact .nil | exact .sel rfl | exact .ptr rfl | refine .cons ?_ ?_ | exact .t _ | exact hps _ _ | refine .aggL ?_ | exact .any _ | exact .lst _ | exact .nl | exact .nln | exact .nlt | exact .ln _ | exact .all rfl rfl (by first | rfl | (simp <;> fail) | (simp; omega)) | exact .own rfl rfl (by first | exact Nat.le_refl _ | (simp <;> fail) | (simp; omega)) | exact .subE rfl rfl (by first | exact take_drop_map (by first | omega | (simp; omega)) | exact take_drop_map' | rfl) (by first | exact Nat.le_refl _ | (simp <;> fail) | (simp; omega)) | exact .ownE rfl rfl (by first | exact Nat.le_refl _ | (simp <;> fail) | (simp; omega)) | refine .lpL ?_ | refine .boxL rfl rfl rfl ?_ | refine .fnL ?_ ?_)); (first | done | fail)) | fail) (hN : heap.length = N := by first | (((try simp only [List.length_cons, List.length_nil, Nat.zero_add, Nat.reduceAdd]); exact rfl)) | fail) (hr : upA (shiftG N) r = r' := by first | (((try simp only [upA, upF, upO, shiftG, List.map_cons, List.map_nil, Nat.reduceAdd, Nat.zero_add, Nat.add_zero]); exact rfl)) | fail) (hL : L.map (upO (shiftG N)) = L' := by first | (((try simp only [upA, upF, upO, shiftG, List.map_cons, List.map_nil, Nat.reduceAdd, Nat.zero_add, Nat.add_zero]); exact rfl)) | fail) (hh : heap ++ L' = heap' := by first | (((try simp only [List.take_zero, List.take_succ_cons, List.drop_zero, List.drop_succ_cons, List.nil_append, List.cons_append, List.append_nil, List.length_cons, List.length_nil, List.set_cons_zero, List.set_cons_succ, List.map_cons, List.map_nil, List.take_nil, List.drop_nil, Nat.zero_add, Nat.add_zero, Nat.reduceAdd, Nat.reduceSub]); exact rfl)) | fail) : AL P ops Q (o :: rest) n T heap := A_calld hw hd hf hn hb ho hc hp hN hr hL hh k
theorem uQ {f : FuncId} {fn : Func} {args : Array Operand} {tys : Array TypeId} {xs : List AV} {r : AV} {L : List Ob} (hc : Cd P f xs r L) (N : Nat) {r' : AV} {L' heap' : List Ob} {al : List Nat} (k : RG P ops n F rest (acc ++ [⟨some d, r', (L'.zipIdx N).map (fun p => (p.2, p.1)), (L'.zipIdx N).map (·.2) ++ al⟩]) (pu T d r') heap') (ho : o.op = .call { callee := .value (.func f), args := args, argTypes := tys } := by first | exact rfl | fail) (hw : wantedA n T ops o = true := by first | exact rfl | fail) (hd : o.dst = some d := by first | exact rfl | fail) (hf : P.funcs[f]? = some fn := by first | exact rfl | fail) (hn : (fn.name == "runtime.NumGoroutine") = false := by first | kernel_rfl | fail) (hb : fn.body.isNone = false := by first | kernel_rfl | fail) (ha : deep heap 3 (idsVs (args.toList.map (evA n T))) = al := by first | exact rfl | fail) (hp : ∀ h', (∀ i, al.contains i = true → h'[i]? = heap[i]?) → PassL h' [] (args.toList.map (evA n T)) xs := by first | (intro h' hh; (repeat' (first | exact .nil | exact .sel rfl | exact .ptr rfl | refine .cons ?_ ?_ | exact .t _ | exact hps _ _ | refine .aggL ?_ | exact .any _ | exact .lst _ | exact .nl | exact .nln | exact .nlt | exact .ln _ | (apply Pass.all; exact (hh _ rfl).trans rfl; exact rfl; exact (by first | rfl | (simp <;> fail) | (simp; omega))) | (apply Pass.own; exact (hh _ rfl).trans rfl; exact rfl; exact (by first | exact Nat.le_refl _ | (simp <;> fail) | (simp; omega))) | (apply Pass.subE; exact (hh _ rfl).trans rfl; exact rfl; exact (by first | exact take_drop_map (by first | omega | (simp; omega)) | exact take_drop_map' | rfl); exact (by first | exact Nat.le_refl _ | (simp <;> fail) | (simp; omega))) | (apply Pass.ownE; exact (hh _ rfl).trans rfl; exact rfl; exact (by first | exact Nat.le_refl _ | (simp <;> fail) | (simp; omega))) | refine .lpL ?_ | refine .boxL ((hh _ rfl).trans rfl) rfl rfl ?_ | refine .fnL ?_ ?_)); (first | done | fail)) | fail) (hN : (L.zipIdx N).all (fun p => isHole heap[p.2]?) = true := by first | exact rfl | fail) (hr : upA (shiftG N) r = r' := by first | (((try simp only [upA, upF, upO, shiftG, List.map_cons, List.map_nil, Nat.reduceAdd, Nat.zero_add, Nat.add_zero]); exact rfl)) | fail) (hL : L.map (upO (shiftG N)) = L' := by first | (((try simp only [upA, upF, upO, shiftG, List.map_cons, List.map_nil, Nat.reduceAdd, Nat.zero_add, Nat.add_zero]); exact rfl)) | fail) (hh : setAll heap ((L'.zipIdx N).map (fun p => (p.2, p.1))) = heap' := by first | (((try simp only [setAll, List.zipIdx_cons, List.zipIdx_nil, List.map_cons, List.map_nil, List.set_cons_zero, List.set_cons_succ]); exact rfl)) | fail) : RG P ops n F (o :: rest) acc T heap := R_calld hw hd hf hn hb ho hc ha hp N hN hr hL hh k
theorem uI {f : FuncId} {fn : Func} {args : Array Operand} {tys : Array TypeId} {xs : List AV} {r : AV} {L : List Ob} {H : List Ob} (sel : List Nat) (hc : Cio P f xs H r L) {N : Nat} {r' : AV} {heap' : List Ob} (k : AL P ops Q rest n (pu T d r') heap') (ho : o.op = .call { callee := .value (.func f), args := args, argTypes := tys } := by first | exact rfl | fail) (hw : wantedA n T ops o = true := by first | exact rfl | fail) (hd : o.dst = some d := by first | exact rfl | fail) (hf : P.funcs[f]? = some fn := by first | exact rfl | fail) (hn : (fn.name == "runtime.NumGoroutine") = false := by first | kernel_rfl | fail) (hb : fn.body.isNone = false := by first | kernel_rfl | fail) (hnd : sel.Nodup := by first | decide | fail) (hH : PassH heap sel sel H := by first | ((repeat' (first | exact .nil | refine .cons rfl ?_ ?_ | exact .row | refine .box ?_ | exact .nil | exact .sel rfl | exact .ptr rfl | refine .cons ?_ ?_ | exact .t _ | exact hps _ _ | refine .aggL ?_ | exact .any _ | exact .lst _ | exact .nl | exact .nln | exact .nlt | exact .ln _ | exact .all rfl rfl (by first | rfl | (simp <;> fail) | (simp; omega)) | exact .own rfl rfl (by first | exact Nat.le_refl _ | (simp <;> fail) | (simp; omega)) | exact .subE rfl rfl (by first | exact take_drop_map (by first | omega | (simp; omega)) | exact take_drop_map' | rfl) (by first | exact Nat.le_refl _ | (simp <;> fail) | (simp; omega)) | exact .ownE rfl rfl (by first | exact Nat.le_refl _ | (simp <;> fail) | (simp; omega)) | refine .lpL ?_ | refine .boxL rfl rfl rfl ?_ | refine .fnL ?_ ?_)); (first | done | fail)) | fail) (hp : PassL heap sel (args.toList.map (evA n T)) xs := by first | ((repeat' (first | exact .nil | exact .sel rfl | exact .ptr rfl | refine .cons ?_ ?_ | exact .t _ | exact hps _ _ | refine .aggL ?_ | exact .any _ | exact .lst _ | exact .nl | exact .nln | exact .nlt | exact .ln _ | exact .all rfl rfl (by first | rfl | (simp <;> fail) | (simp; omega)) | exact .own rfl rfl (by first | exact Nat.le_refl _ | (simp <;> fail) | (simp; omega)) | exact .subE rfl rfl (by first | exact take_drop_map (by first | omega | (simp; omega)) | exact take_drop_map' | rfl) (by first | exact Nat.le_refl _ | (simp <;> fail) | (simp; omega)) | exact .ownE rfl rfl (by first | exact Nat.le_refl _ | (simp <;> fail) | (simp; omega)) | refine .lpL ?_ | refine .boxL rfl rfl rfl ?_ | refine .fnL ?_ ?_)); (first | done | fail)) | fail) (hN : heap.length = N := by first | (((try simp only [List.length_cons, List.length_nil, Nat.zero_add, Nat.reduceAdd]); exact rfl)) | fail) (hr : upA (gIO sel N) r = r' := by first | (((try simp only [setSel, upO, upA, upF, gIO, List.map_cons, List.map_nil, List.drop_succ_cons, List.drop_zero, List.drop_nil, List.length_cons, List.length_nil, List.set_cons_zero, List.set_cons_succ, List.cons_append, List.nil_append, List.append_nil, List.getElem?_cons_zero, List.getElem?_cons_succ, List.getElem?_nil, Nat.zero_add, Nat.reduceAdd, Nat.reduceSub]); exact rfl)) | fail) (hh : setSel heap sel (L.map (upO (gIO sel N))) ++ (L.drop sel.length).map (upO (gIO sel N)) = heap' := by first | (((try simp only [setSel, upO, upA, upF, gIO, List.map_cons, List.map_nil, List.drop_succ_cons, List.drop_zero, List.drop_nil, List.length_cons, List.length_nil, List.set_cons_zero, List.set_cons_succ, List.cons_append, List.nil_append, List.append_nil, List.getElem?_cons_zero, List.getElem?_cons_succ, List.getElem?_nil, Nat.zero_add, Nat.reduceAdd, Nat.reduceSub]); exact rfl)) | fail) : AL P ops Q (o :: rest) n T heap := A_callio hw hd hf hn hb ho sel hnd hc hH hp hN hr hh k
theorem uS (g : Nat) {b : Bool} {pt pf : Prop} (ht : pt → AL P ops Q rest n (pu T g (.t (.v (.bool true)))) heap) (hf : pf → AL P ops Q rest n (pu T g (.t (.v (.bool false)))) heap) (hg : evA n T (.tmp g) = .t (.v (.bool b)) := by first | exact rfl | fail) (h1 : b = true → pt := by first | exact of_decide_eq_true | exact notD | exact notB | (intro h; (fail_if_success (change true = true at h)); (fail_if_success (change false = true at h)); exact h) | fail) (h2 : b = false → pf := by first | exact of_decide_eq_false | exact notE | exact notC | (intro h; exact h) | fail) : AL P ops Q rest n T heap := AL.split g hg (fun h => ht (h1 h)) (fun h => hf (h2 h))
end
theorem uA {p q : Prop} (k : q) (h : ZK q → p := by (intro zk; first | (((with_reducible refine kAL ?_); first | (refine AL.nil ?_) | (refine AL.skip rfl rfl ?_) | (refine AL.skip0 rfl rfl ?_) | (first | (refine zkM 0 ?_; first | refine A_mt rfl rfl rfl rfl ?_ | refine A_move rfl rfl _ (.inl rfl) (y := .sl _ _ _) rfl ?_ | refine A_move rfl rfl _ (.inl rfl) (y := .nl) rfl ?_ | refine A_move rfl rfl _ (.inl rfl) (y := .ptr _ _) rfl ?_ | refine A_move rfl rfl _ (.inl rfl) (y := .ln _) rfl ?_ | refine A_move rfl rfl _ (.inl rfl) (y := .lp _) rfl ?_ | refine A_move rfl rfl _ (.inl rfl) (y := .fn _ _ _) rfl ?_ | refine A_move rfl rfl _ (.inl rfl) (y := .sub _ _ _ _) rfl ?_ | refine A_move rfl rfl _ (.inl rfl) (y := .rp _ _ _ _) rfl ?_ | refine A_move rfl rfl _ (.inl rfl) (y := .agg _) rfl ?_ | refine A_move rfl rfl _ (.inl rfl) (y := .tup _) rfl ?_ | refine A_move rfl rfl _ (.inl rfl) (y := .mv _) rfl ?_ | refine A_move rfl rfl _ (.inl rfl) (y := .cl _) rfl ?_) | (refine zkM 2 ?_; first | refine A_load rfl rfl _ _ rfl Ud.h rfl rfl rfl rfl ?_ | refine A_load_agg rfl rfl _ _ rfl Ud.h rfl In.h rfl rfl qN rfl ?_ | refine A_load_lp rfl rfl _ _ rfl Ud.h rfl rfl rfl ?_ | refine A_load_lp_agg rfl rfl _ _ rfl Ud.h rfl In.h rfl qN rfl ?_ | refine A_load_rp rfl rfl _ _ rfl Ud.h rfl rfl rfl (by first | exact map_get (by assumption) | assumption | exact rfl | exact map_get (get_D (x := 0) (by omega))) rfl ?_ | refine A_load_rp_aggU rfl rfl rfl Ud.h rfl In.h rfl rfl (by first | exact map_get (by assumption) | assumption | exact rfl | exact map_get (get_D (x := 0) (by omega))) (by repeat (first | exact Sk.z | apply Sk.s)) (by repeat (first | exact Tm.z | apply Tm.s)) ?_) | (refine zkM 4 ?_; first | refine A_fieldU rfl rfl rfl Ud.h qG In.h (by decide) rfl ?_) | (refine zkM 1 ?_; first | refine A_as rfl rfl rfl rfl ?_ | refine A_move rfl rfl _ (.inr rfl) (y := .sl _ _ _) rfl ?_ | refine A_move rfl rfl _ (.inr rfl) (y := .nl) rfl ?_ | refine A_move rfl rfl _ (.inr rfl) (y := .ptr _ _) rfl ?_ | refine A_move rfl rfl _ (.inr rfl) (y := .ln _) rfl ?_ | refine A_move rfl rfl _ (.inr rfl) (y := .lp _) rfl ?_ | refine A_move rfl rfl _ (.inr rfl) (y := .fn _ _ _) rfl ?_ | refine A_move rfl rfl _ (.inr rfl) (y := .sub _ _ _ _) rfl ?_ | refine A_move rfl rfl _ (.inr rfl) (y := .rp _ _ _ _) rfl ?_ | refine A_move rfl rfl _ (.inr rfl) (y := .agg _) rfl ?_ | refine A_move rfl rfl _ (.inr rfl) (y := .tup _) rfl ?_ | refine A_move rfl rfl _ (.inr rfl) (y := .mv _) rfl ?_ | refine A_move rfl rfl _ (.inr rfl) (y := .cl _) rfl ?_) | (refine zkM 9 ?_; first | refine A_add rfl rfl _ _ _ _ rfl rfl rfl (by first | exact wi | exact wu | rfl) ?_ | refine A_sub rfl rfl _ _ _ _ rfl rfl rfl (by first | exact wi | exact wu | rfl) ?_ | refine A_mul rfl rfl _ _ _ _ rfl rfl rfl (by first | exact wi | exact wu | rfl) ?_ | refine A_cmp rfl rfl (c := true) _ _ _ _ _ rfl rfl rfl (by exact congrArg some (decide_eq_true (by (try (dsimp only; fail_if_success done)); first | omega | fail))) ?_ | refine A_cmp rfl rfl (c := false) _ _ _ _ _ rfl rfl rfl (by exact congrArg some (decide_eq_false (by (try (dsimp only; fail_if_success done)); first | omega | fail))) ?_ | refine A_cmp rfl rfl _ _ _ _ _ rfl rfl rfl rfl ?_ | refine A_beq rfl rfl _ _ _ _ rfl Ud.h rfl rfl ?_ | refine A_bne rfl rfl _ _ _ _ rfl Ud.h rfl rfl ?_ | refine A_quo rfl rfl _ _ _ _ rfl rfl rfl (by first | decide | omega) (by first | exact IntWalk.i64_quo _ _ (by omega) | exact IntWalk.u64_quo _ _ (by omega) | rfl) ?_ | refine A_rem rfl rfl _ _ _ _ rfl rfl rfl (by first | decide | omega) (by first | exact IntWalk.rem_in _ _ (by omega) | rfl) ?_ | refine A_pnil rfl rfl rfl Ud.h rfl (by first | exact .inl ⟨rfl, rfl⟩ | exact .inr ⟨rfl, rfl⟩) ?_ | refine A_snil rfl rfl rfl Ud.h rfl (by first | omega | (simp <;> fail) | (simp; omega)) (by first | exact .inl ⟨rfl, rfl⟩ | exact .inr ⟨rfl, rfl⟩) ?_) | (refine zkM 3 ?_; first | refine A_store rfl rfl _ _ _ rfl In.h rfl rfl rfl rfl (Nat.le_of_ble_eq_true rfl) qN qN ?_ | refine A_store_rp rfl rfl _ _ _ rfl In.h (by decide) rfl rfl (by first | exact map_get (by assumption) | assumption | exact rfl | exact map_get (get_D (x := 0) (by omega))) rfl rfl rfl (Nat.le_of_ble_eq_true rfl) (by first | exact map_set (f := tI) (x := _) | exact map_set (f := tU) (x := _) | exact map_set (f := tR) (x := ⟨_, _, _, _⟩) | exact map_set (f := tCs) (x := ⟨_, _, _⟩) | exact map_set (f := tOd) (x := ⟨⟨_, _⟩, _⟩) | exact map_set (f := tRf) (x := ⟨_, _⟩) | exact map_set (f := tOp) (x := ⟨_, _, _, ⟨_, _, _, _, _⟩⟩) | ((try simp only [List.take_zero, List.take_succ_cons, List.drop_zero, List.drop_succ_cons, List.nil_append, List.cons_append, List.append_nil, List.length_cons, List.length_nil, List.set_cons_zero, List.set_cons_succ, List.map_cons, List.map_nil, List.take_nil, List.drop_nil, Nat.zero_add, Nat.add_zero, Nat.reduceAdd, Nat.reduceSub]); rfl)) qN ?_) | (refine zkM 12 ?_; first | refine A_len rfl rfl _ _ rfl Ud.h rfl ?_ | refine A_append rfl rfl _ _ _ rfl Ud.h In.h rfl rfl rfl (by first | exact Nat.le_refl _ | (simp <;> fail) | (simp; omega)) (by first | exact .nl | exact .all rfl (by first | rfl | (simp <;> fail) | (simp; omega)) | exact .lst (by first | exact each_map (fun _ => rfl) | assumption | (simp <;> fail)) | exact .ln (by first | exact each_map (fun _ => rfl) | assumption | (simp <;> fail)) | exact .sl rfl (by first | exact Nat.le_refl _ | (simp <;> fail) | (simp; omega)) | exact .sub rfl (by first | exact Nat.le_refl _ | (simp <;> fail) | (simp; omega))) qB qB (by first | exact app_map (by first | rfl | omega | (simp <;> fail)) | exact app_one (f := tI) (x := _) (by first | rfl | omega | (simp <;> fail)) | exact app_one (f := tU) (x := _) (by first | rfl | omega | (simp <;> fail)) | exact app_one (f := tR) (x := ⟨_, _, _, _⟩) (by first | rfl | omega | (simp <;> fail)) | exact app_one (f := tCs) (x := ⟨_, _, _⟩) (by first | rfl | omega | (simp <;> fail)) | exact app_one (f := tOd) (x := ⟨⟨_, _⟩, _⟩) (by first | rfl | omega | (simp <;> fail)) | exact app_one (f := tRf) (x := ⟨_, _⟩) (by first | rfl | omega | (simp <;> fail)) | exact app_one (f := tOp) (x := ⟨_, _, _, ⟨_, _, _, _, _⟩⟩) (by first | rfl | omega | (simp <;> fail)) | ((try simp only [List.take_zero, List.take_succ_cons, List.drop_zero, List.drop_succ_cons, List.nil_append, List.cons_append, List.append_nil, List.length_cons, List.length_nil, List.set_cons_zero, List.set_cons_succ, List.map_cons, List.map_nil, List.take_nil, List.drop_nil, Nat.zero_add, Nat.add_zero, Nat.reduceAdd, Nat.reduceSub]); rfl)) qN qS ?_ | refine A_append_nl rfl rfl _ _ _ rfl Ud.h In.h rfl rfl (by first | exact .nl | exact .all rfl (by first | rfl | (simp <;> fail) | (simp; omega)) | exact .lst (by first | exact each_map (fun _ => rfl) | assumption | (simp <;> fail)) | exact .ln (by first | exact each_map (fun _ => rfl) | assumption | (simp <;> fail)) | exact .sl rfl (by first | exact Nat.le_refl _ | (simp <;> fail) | (simp; omega)) | exact .sub rfl (by first | exact Nat.le_refl _ | (simp <;> fail) | (simp; omega))) qB qB (by first | exact (rfl : _ = List.map tI [_]) | exact (rfl : _ = List.map tU [_]) | exact (rfl : _ = List.map tR [⟨_, _, _, _⟩]) | exact (rfl : _ = List.map tCs [⟨_, _, _⟩]) | exact (rfl : _ = List.map tOd [⟨⟨_, _⟩, _⟩]) | exact (rfl : _ = List.map tRf [⟨_, _⟩]) | exact (rfl : _ = List.map tOp [⟨_, _, _, ⟨_, _, _, _, _⟩⟩]) | ((try simp only [List.take_zero, List.take_succ_cons, List.drop_zero, List.drop_succ_cons, List.nil_append, List.cons_append, List.append_nil, List.length_cons, List.length_nil, List.set_cons_zero, List.set_cons_succ, List.map_cons, List.map_nil, List.take_nil, List.drop_nil, Nat.zero_add, Nat.add_zero, Nat.reduceAdd, Nat.reduceSub]); rfl)) (.push qL qN) qS ?_ | refine A_max rfl rfl _ _ _ rfl rfl rfl ?_ | refine A_min rfl rfl _ _ _ rfl rfl rfl ?_ | refine A_append_clU rfl rfl _ _ _ rfl Ud.h In.h rfl rfl (by first | exact List.length_map _ | rfl) (by first | exact each_map (fun _ => rfl) | assumption | (simp <;> fail)) (by first | exact .nl | exact .all rfl (by first | rfl | (simp <;> fail) | (simp; omega)) | exact .lst (by first | exact each_map (fun _ => rfl) | assumption | (simp <;> fail)) | exact .ln (by first | exact each_map (fun _ => rfl) | assumption | (simp <;> fail)) | exact .sl rfl (by first | exact Nat.le_refl _ | (simp <;> fail) | (simp; omega)) | exact .sub rfl (by first | exact Nat.le_refl _ | (simp <;> fail) | (simp; omega))) (by first | exact Nat.succ_pos _ | (simp <;> fail)) qB qB (by first | exact cl_one (f := tI) (x := _) | exact cl_one (f := tU) (x := _) | exact cl_one (f := tR) (x := ⟨_, _, _, _⟩) | exact cl_one (f := tCs) (x := ⟨_, _, _⟩) | exact cl_one (f := tOd) (x := ⟨⟨_, _⟩, _⟩) | exact cl_one (f := tRf) (x := ⟨_, _⟩) | exact cl_one (f := tOp) (x := ⟨_, _, _, ⟨_, _, _, _, _⟩⟩) | exact qN) (.push qL qN) qS ?_ | refine A_copy rfl rfl rfl Ud.h In.h rfl rfl (by first | exact Nat.le_refl _ | (simp <;> fail) | (simp; omega)) (by first | exact .nl | exact .all rfl (by first | rfl | (simp <;> fail) | (simp; omega)) | exact .lst (by first | exact each_map (fun _ => rfl) | assumption | (simp <;> fail)) | exact .ln (by first | exact each_map (fun _ => rfl) | assumption | (simp <;> fail)) | exact .sl rfl (by first | exact Nat.le_refl _ | (simp <;> fail) | (simp; omega)) | exact .sub rfl (by first | exact Nat.le_refl _ | (simp <;> fail) | (simp; omega))) (by first | omega | (simp <;> fail) | (simp; omega)) qN qN qS ?_) | (refine zkM 7 ?_; first | refine A_box rfl rfl _ _ rfl rfl (.push qL qN) ?_) | (refine zkM 18 ?_; first | refine A_extract rfl rfl _ _ rfl rfl rfl ?_) | (refine zkM 6 ?_; first | refine A_idx_sl rfl rfl _ _ _ rfl Ud.h In.h rfl rfl (by first | exact Nat.le_refl _ | (simp <;> fail) | (simp; omega)) rfl (by first | omega | (simp <;> fail) | (simp; omega)) _ qJ (by first | omega | (simp <;> fail) | (simp; omega)) ?_ | refine A_idxU rfl rfl rfl Ud.h In.h (by decide) (by first | exact .inl rfl | exact .inr rfl) rfl (by first | omega | (simp <;> fail) | (simp; omega)) qJ (by first | exact map_get (by assumption) | assumption | exact rfl | exact map_get (get_D (x := 0) (by omega))) rfl (by repeat (first | exact Tl.z | apply Tl.s)) ?_ | refine A_idx_sub rfl rfl _ _ _ rfl Ud.h In.h rfl rfl rfl (by first | omega | (simp <;> fail) | (simp; omega)) _ qJ (by first | omega | (simp <;> fail) | (simp; omega)) ?_) | (refine zkM 8 ?_; first | refine A_allocU rfl rfl rfl Zr.h (.push qL qN) ?_) | (refine zkM 19 ?_; first | refine A_pkt rfl rfl _ _ _ rfl rfl rfl ?_ | refine A_pkf rfl rfl _ _ _ rfl rfl rfl ?_ | refine A_pick rfl rfl _ _ _ rfl rfl rfl rfl rfl ?_) | (refine zkM 14 ?_; first | refine A_buildU rfl rfl rfl Bp.h Zr.h (by repeat (first | exact Parts.nil | (apply Parts.cons; exact rfl))) (by repeat (first | exact Fl.nil | (apply Fl.cons; exact rfl; exact rfl; exact (Nat.le_of_ble_eq_true rfl); exact qN))) ?_ | refine A_buildB rfl rfl rfl Ba.h Zr.h (by repeat (first | exact Parts.nil | (apply Parts.cons; exact rfl))) (by repeat (first | exact Fl.nil | (apply Fl.cons; exact rfl; exact rfl; exact (Nat.le_of_ble_eq_true rfl); exact qN))) ?_) | (refine zkM 20 ?_; first | refine A_not rfl rfl _ _ rfl rfl ?_ | refine A_neg rfl rfl _ _ rfl rfl (by first | exact wi | exact wu | rfl) ?_) | (refine zkM 17 ?_; first | refine A_conv rfl rfl _ _ _ rfl Ud.h Ud.h rfl (by first | exact wi | exact wu | rfl) ?_) | (refine zkM 5 ?_; first | refine A_getU rfl rfl rfl Ud.h qG Ud.h rfl rfl rfl ?_ | refine A_get_aggU rfl rfl rfl Ud.h qG Ud.h rfl In.h rfl qN ?_) | (refine zkM 13 ?_; first | refine A_cut_hi rfl rfl _ _ _ rfl Ud.h In.h rfl (by first | exact .no _ | exact .yes rfl (by first | omega | (simp <;> fail) | (simp; omega)) qJ) (by first | omega | (simp <;> fail) | (simp; omega)) ?_ | refine A_cut_sub rfl rfl _ _ _ _ rfl Ud.h In.h rfl rfl (by first | exact .no _ | exact .yes rfl (by first | omega | (simp <;> fail) | (simp; omega)) qJ) (by first | exact .no _ | exact .yes rfl (by first | omega | (simp <;> fail) | (simp; omega)) qJ) (by first | omega | (simp <;> fail) | (simp; omega)) (by first | omega | (simp <;> fail) | (simp; omega)) (by (try simp only [Nat.sub_zero]); rfl) ?_ | refine A_cut rfl rfl _ _ _ _ rfl Ud.h In.h rfl (by first | exact each_map (fun _ => rfl) | assumption | (simp <;> fail)) (by (try simp only [List.length_map]); rfl) (by first | exact .no _ | exact .yes rfl (by first | omega | (simp <;> fail) | (simp; omega)) qJ) (by first | exact .no _ | exact .yes rfl (by first | omega | (simp <;> fail) | (simp; omega)) qJ) (by first | omega | (simp <;> fail) | (simp; omega)) (by first | omega | (simp <;> fail) | (simp; omega)) (by first | (simp only [List.drop_zero, Nat.sub_zero, ← List.map_drop, ← List.map_take]; rfl) | rfl) ?_ | refine A_cut_t rfl rfl _ _ _ _ rfl Ud.h In.h rfl (by first | exact each_map (fun _ => rfl) | assumption | (simp <;> fail)) (by (try simp only [List.length_map]); rfl) (by first | exact .no _ | exact .yes rfl (by first | omega | (simp <;> fail) | (simp; omega)) qJ) (by first | exact .no _ | exact .yes rfl (by first | omega | (simp <;> fail) | (simp; omega)) qJ) (by first | omega | (simp <;> fail) | (simp; omega)) (by first | omega | (simp <;> fail) | (simp; omega)) (by first | (simp only [List.drop_zero, Nat.sub_zero, ← List.map_drop, ← List.map_take]; rfl) | rfl) ?_ | refine A_clip rfl rfl rfl Ud.h In.h rfl (by first | exact each_map (fun _ => rfl) | assumption | (simp <;> fail)) rfl rfl (by first | exact rfl | (simp <;> fail)) (by first | exact rfl | (simp <;> fail)) ?_) | (refine zkM 15 ?_; first | refine A_lit0 rfl rfl _ rfl Ud.h In.h ?_) | (refine zkM 21 ?_; first | refine A_fn rfl rfl _ _ _ rfl (by repeat (first | exact Args.nil | (apply Args.cons; exact rfl))) (by repeat (first | exact Args.nil | (apply Args.cons; exact rfl))) ?_) | (refine zkM 31 ?_; first | refine A_nilc rfl rfl _ rfl rfl rfl ?_ | refine A_index rfl rfl rfl Ud.h Ud.h rfl In.h rfl (by first | omega | (simp <;> fail) | (simp; omega)) qJ (by first | omega | (simp <;> fail) | (simp; omega)) rfl rfl ?_ | refine A_mkmap rfl rfl rfl (.push qL qN) ?_ | refine A_lookup rfl rfl rfl Ud.h Ud.h In.h rfl rfl rfl (by first | assumption | exact rfl) rfl rfl ?_ | refine A_mapnew rfl rfl rfl Ud.h Ud.h rfl rfl rfl rfl (by first | assumption | exact rfl) qN ?_))); exact zk.1) | fail)) : p := h ⟨k⟩
theorem uR {p q : Prop} (k : q) (h : ZK q → p := by (intro zk; first | (((with_reducible refine kRG ?_); first | (refine RG.nil ⟨by kernel_rfl, ?_⟩) | (refine R_skip rfl rfl ?_) | (refine R_skip0 rfl rfl ?_) | (first | (refine zkN 0 ?_; first | refine R_mt rfl rfl rfl rfl ?_ | refine R_move rfl rfl _ (.inl rfl) (y := .sl _ _ _) rfl ?_ | refine R_move rfl rfl _ (.inl rfl) (y := .nl) rfl ?_ | refine R_move rfl rfl _ (.inl rfl) (y := .ptr _ _) rfl ?_ | refine R_move rfl rfl _ (.inl rfl) (y := .ln _) rfl ?_ | refine R_move rfl rfl _ (.inl rfl) (y := .lp _) rfl ?_ | refine R_move rfl rfl _ (.inl rfl) (y := .fn _ _ _) rfl ?_ | refine R_move rfl rfl _ (.inl rfl) (y := .sub _ _ _ _) rfl ?_ | refine R_move rfl rfl _ (.inl rfl) (y := .rp _ _ _ _) rfl ?_ | refine R_move rfl rfl _ (.inl rfl) (y := .agg _) rfl ?_ | refine R_move rfl rfl _ (.inl rfl) (y := .tup _) rfl ?_ | refine R_move rfl rfl _ (.inl rfl) (y := .mv _) rfl ?_ | refine R_move rfl rfl _ (.inl rfl) (y := .cl _) rfl ?_) | (refine zkN 2 ?_; first | refine R_load rfl rfl _ _ rfl Ud.h rfl rfl rfl rfl ?_ | refine R_load_agg rfl rfl _ _ rfl Ud.h rfl In.h rfl rfl qN rfl ?_ | refine R_load_lp rfl rfl _ _ rfl Ud.h rfl rfl rfl ?_ | refine R_load_lp_agg rfl rfl _ _ rfl Ud.h rfl In.h rfl qN rfl ?_ | refine R_load_rp rfl rfl _ _ rfl Ud.h rfl rfl rfl (by first | exact map_get (by assumption) | assumption | exact rfl | exact map_get (get_D (x := 0) (by omega))) rfl ?_ | refine R_load_rp_aggU rfl rfl rfl Ud.h rfl In.h rfl rfl (by first | exact map_get (by assumption) | assumption | exact rfl | exact map_get (get_D (x := 0) (by omega))) (by repeat (first | exact Sk.z | apply Sk.s)) (by repeat (first | exact Tm.z | apply Tm.s)) ?_) | (refine zkN 4 ?_; first | refine R_fieldU rfl rfl rfl Ud.h qG In.h (by decide) rfl ?_) | (refine zkN 1 ?_; first | refine R_as rfl rfl rfl rfl ?_ | refine R_move rfl rfl _ (.inr rfl) (y := .sl _ _ _) rfl ?_ | refine R_move rfl rfl _ (.inr rfl) (y := .nl) rfl ?_ | refine R_move rfl rfl _ (.inr rfl) (y := .ptr _ _) rfl ?_ | refine R_move rfl rfl _ (.inr rfl) (y := .ln _) rfl ?_ | refine R_move rfl rfl _ (.inr rfl) (y := .lp _) rfl ?_ | refine R_move rfl rfl _ (.inr rfl) (y := .fn _ _ _) rfl ?_ | refine R_move rfl rfl _ (.inr rfl) (y := .sub _ _ _ _) rfl ?_ | refine R_move rfl rfl _ (.inr rfl) (y := .rp _ _ _ _) rfl ?_ | refine R_move rfl rfl _ (.inr rfl) (y := .agg _) rfl ?_ | refine R_move rfl rfl _ (.inr rfl) (y := .tup _) rfl ?_ | refine R_move rfl rfl _ (.inr rfl) (y := .mv _) rfl ?_ | refine R_move rfl rfl _ (.inr rfl) (y := .cl _) rfl ?_) | (refine zkN 9 ?_; first | refine R_add rfl rfl _ _ _ _ rfl rfl rfl (by first | exact wi | exact wu | rfl) ?_ | refine R_sub rfl rfl _ _ _ _ rfl rfl rfl (by first | exact wi | exact wu | rfl) ?_ | refine R_mul rfl rfl _ _ _ _ rfl rfl rfl (by first | exact wi | exact wu | rfl) ?_ | refine R_cmp rfl rfl (c := true) _ _ _ _ _ rfl rfl rfl (by exact congrArg some (decide_eq_true (by (try (dsimp only; fail_if_success done)); first | omega | fail))) ?_ | refine R_cmp rfl rfl (c := false) _ _ _ _ _ rfl rfl rfl (by exact congrArg some (decide_eq_false (by (try (dsimp only; fail_if_success done)); first | omega | fail))) ?_ | refine R_cmp rfl rfl _ _ _ _ _ rfl rfl rfl rfl ?_ | refine R_beq rfl rfl _ _ _ _ rfl Ud.h rfl rfl ?_ | refine R_bne rfl rfl _ _ _ _ rfl Ud.h rfl rfl ?_ | refine R_quo rfl rfl _ _ _ _ rfl rfl rfl (by first | decide | omega) (by first | exact IntWalk.i64_quo _ _ (by omega) | exact IntWalk.u64_quo _ _ (by omega) | rfl) ?_ | refine R_rem rfl rfl _ _ _ _ rfl rfl rfl (by first | decide | omega) (by first | exact IntWalk.rem_in _ _ (by omega) | rfl) ?_ | refine R_pnil rfl rfl rfl Ud.h rfl (by first | exact .inl ⟨rfl, rfl⟩ | exact .inr ⟨rfl, rfl⟩) ?_ | refine R_snil rfl rfl rfl Ud.h rfl (by first | omega | (simp <;> fail) | (simp; omega)) (by first | exact .inl ⟨rfl, rfl⟩ | exact .inr ⟨rfl, rfl⟩) ?_) | (refine zkN 3 ?_; first | refine R_store rfl rfl _ _ _ rfl In.h rfl rfl rfl rfl (Nat.le_of_ble_eq_true rfl) qN qN ?_ | refine R_store_rp rfl rfl _ _ _ rfl In.h (by decide) rfl rfl (by first | exact map_get (by assumption) | assumption | exact rfl | exact map_get (get_D (x := 0) (by omega))) rfl rfl rfl (Nat.le_of_ble_eq_true rfl) (by first | exact map_set (f := tI) (x := _) | exact map_set (f := tU) (x := _) | exact map_set (f := tR) (x := ⟨_, _, _, _⟩) | exact map_set (f := tCs) (x := ⟨_, _, _⟩) | exact map_set (f := tOd) (x := ⟨⟨_, _⟩, _⟩) | exact map_set (f := tRf) (x := ⟨_, _⟩) | exact map_set (f := tOp) (x := ⟨_, _, _, ⟨_, _, _, _, _⟩⟩) | ((try simp only [List.take_zero, List.take_succ_cons, List.drop_zero, List.drop_succ_cons, List.nil_append, List.cons_append, List.append_nil, List.length_cons, List.length_nil, List.set_cons_zero, List.set_cons_succ, List.map_cons, List.map_nil, List.take_nil, List.drop_nil, Nat.zero_add, Nat.add_zero, Nat.reduceAdd, Nat.reduceSub]); rfl)) qN ?_) | (refine zkN 12 ?_; first | refine R_len rfl rfl _ _ rfl Ud.h rfl ?_ | refine R_append rfl rfl _ _ _ rfl Ud.h In.h rfl rfl rfl (by first | exact Nat.le_refl _ | (simp <;> fail) | (simp; omega)) (by first | exact .nl | exact .all rfl (by first | rfl | (simp <;> fail) | (simp; omega)) | exact .lst (by first | exact each_map (fun _ => rfl) | assumption | (simp <;> fail)) | exact .ln (by first | exact each_map (fun _ => rfl) | assumption | (simp <;> fail)) | exact .sl rfl (by first | exact Nat.le_refl _ | (simp <;> fail) | (simp; omega)) | exact .sub rfl (by first | exact Nat.le_refl _ | (simp <;> fail) | (simp; omega))) qB qB (by first | exact app_map (by first | rfl | omega | (simp <;> fail)) | exact app_one (f := tI) (x := _) (by first | rfl | omega | (simp <;> fail)) | exact app_one (f := tU) (x := _) (by first | rfl | omega | (simp <;> fail)) | exact app_one (f := tR) (x := ⟨_, _, _, _⟩) (by first | rfl | omega | (simp <;> fail)) | exact app_one (f := tCs) (x := ⟨_, _, _⟩) (by first | rfl | omega | (simp <;> fail)) | exact app_one (f := tOd) (x := ⟨⟨_, _⟩, _⟩) (by first | rfl | omega | (simp <;> fail)) | exact app_one (f := tRf) (x := ⟨_, _⟩) (by first | rfl | omega | (simp <;> fail)) | exact app_one (f := tOp) (x := ⟨_, _, _, ⟨_, _, _, _, _⟩⟩) (by first | rfl | omega | (simp <;> fail)) | ((try simp only [List.take_zero, List.take_succ_cons, List.drop_zero, List.drop_succ_cons, List.nil_append, List.cons_append, List.append_nil, List.length_cons, List.length_nil, List.set_cons_zero, List.set_cons_succ, List.map_cons, List.map_nil, List.take_nil, List.drop_nil, Nat.zero_add, Nat.add_zero, Nat.reduceAdd, Nat.reduceSub]); rfl)) qN qS ?_ | refine R_append_nl rfl rfl _ _ _ rfl Ud.h In.h rfl rfl (by first | exact .nl | exact .all rfl (by first | rfl | (simp <;> fail) | (simp; omega)) | exact .lst (by first | exact each_map (fun _ => rfl) | assumption | (simp <;> fail)) | exact .ln (by first | exact each_map (fun _ => rfl) | assumption | (simp <;> fail)) | exact .sl rfl (by first | exact Nat.le_refl _ | (simp <;> fail) | (simp; omega)) | exact .sub rfl (by first | exact Nat.le_refl _ | (simp <;> fail) | (simp; omega))) qB qB (by first | exact (rfl : _ = List.map tI [_]) | exact (rfl : _ = List.map tU [_]) | exact (rfl : _ = List.map tR [⟨_, _, _, _⟩]) | exact (rfl : _ = List.map tCs [⟨_, _, _⟩]) | exact (rfl : _ = List.map tOd [⟨⟨_, _⟩, _⟩]) | exact (rfl : _ = List.map tRf [⟨_, _⟩]) | exact (rfl : _ = List.map tOp [⟨_, _, _, ⟨_, _, _, _, _⟩⟩]) | ((try simp only [List.take_zero, List.take_succ_cons, List.drop_zero, List.drop_succ_cons, List.nil_append, List.cons_append, List.append_nil, List.length_cons, List.length_nil, List.set_cons_zero, List.set_cons_succ, List.map_cons, List.map_nil, List.take_nil, List.drop_nil, Nat.zero_add, Nat.add_zero, Nat.reduceAdd, Nat.reduceSub]); rfl)) qh qN qS ?_ | refine R_max rfl rfl _ _ _ rfl rfl rfl ?_ | refine R_min rfl rfl _ _ _ rfl rfl rfl ?_ | refine R_append_cl rfl rfl _ _ _ rfl Ud.h In.h rfl rfl (by first | exact List.length_map _ | rfl) (by first | exact each_map (fun _ => rfl) | assumption | (simp <;> fail)) (by first | exact .nl | exact .all rfl (by first | rfl | (simp <;> fail) | (simp; omega)) | exact .lst (by first | exact each_map (fun _ => rfl) | assumption | (simp <;> fail)) | exact .ln (by first | exact each_map (fun _ => rfl) | assumption | (simp <;> fail)) | exact .sl rfl (by first | exact Nat.le_refl _ | (simp <;> fail) | (simp; omega)) | exact .sub rfl (by first | exact Nat.le_refl _ | (simp <;> fail) | (simp; omega))) (by first | exact Nat.succ_pos _ | (simp <;> fail)) qB qB (by first | exact cl_one (f := tI) (x := _) | exact cl_one (f := tU) (x := _) | exact cl_one (f := tR) (x := ⟨_, _, _, _⟩) | exact cl_one (f := tCs) (x := ⟨_, _, _⟩) | exact cl_one (f := tOd) (x := ⟨⟨_, _⟩, _⟩) | exact cl_one (f := tRf) (x := ⟨_, _⟩) | exact cl_one (f := tOp) (x := ⟨_, _, _, ⟨_, _, _, _, _⟩⟩) | exact qN) qh qN qS ?_) | (refine zkN 7 ?_; first | refine R_box rfl rfl _ _ rfl rfl qh qN ?_) | (refine zkN 18 ?_; first | refine R_extract rfl rfl _ _ rfl rfl rfl ?_) | (refine zkN 6 ?_; first | refine R_idx_sl rfl rfl _ _ _ rfl Ud.h In.h rfl rfl (by first | exact Nat.le_refl _ | (simp <;> fail) | (simp; omega)) rfl (by first | omega | (simp <;> fail) | (simp; omega)) _ qJ (by first | omega | (simp <;> fail) | (simp; omega)) ?_ | refine R_idxU rfl rfl rfl Ud.h In.h (by decide) (by first | exact .inl rfl | exact .inr rfl) rfl (by first | omega | (simp <;> fail) | (simp; omega)) qJ (by first | exact map_get (by assumption) | assumption | exact rfl | exact map_get (get_D (x := 0) (by omega))) rfl (by repeat (first | exact Tl.z | apply Tl.s)) ?_ | refine R_idx_sub rfl rfl _ _ _ rfl Ud.h In.h rfl rfl rfl (by first | omega | (simp <;> fail) | (simp; omega)) _ qJ (by first | omega | (simp <;> fail) | (simp; omega)) ?_) | (refine zkN 8 ?_; first | refine R_allocU rfl rfl rfl Zr.h qh qN ?_) | (refine zkN 19 ?_; first | refine R_pkt rfl rfl _ _ _ rfl rfl rfl ?_ | refine R_pkf rfl rfl _ _ _ rfl rfl rfl ?_ | refine R_pick rfl rfl _ _ _ rfl rfl rfl rfl rfl ?_) | (refine zkN 14 ?_; first | refine R_buildU rfl rfl rfl Bp.h Zr.h (by repeat (first | exact Parts.nil | (apply Parts.cons; exact rfl))) (by repeat (first | exact Fl.nil | (apply Fl.cons; exact rfl; exact rfl; exact (Nat.le_of_ble_eq_true rfl); exact qN))) ?_ | refine R_buildB rfl rfl rfl Ba.h Zr.h (by repeat (first | exact Parts.nil | (apply Parts.cons; exact rfl))) (by repeat (first | exact Fl.nil | (apply Fl.cons; exact rfl; exact rfl; exact (Nat.le_of_ble_eq_true rfl); exact qN))) ?_) | (refine zkN 20 ?_; first | refine R_not rfl rfl _ _ rfl rfl ?_ | refine R_neg rfl rfl _ _ rfl rfl (by first | exact wi | exact wu | rfl) ?_) | (refine zkN 17 ?_; first | refine R_conv rfl rfl _ _ _ rfl Ud.h Ud.h rfl (by first | exact wi | exact wu | rfl) ?_) | (refine zkN 5 ?_; first | refine R_getU rfl rfl rfl Ud.h qG Ud.h rfl rfl rfl ?_ | refine R_get_aggU rfl rfl rfl Ud.h qG Ud.h rfl In.h rfl qN ?_) | (refine zkN 13 ?_; first | refine R_cut_hi rfl rfl _ _ _ rfl Ud.h In.h rfl (by first | exact .no _ | exact .yes rfl (by first | omega | (simp <;> fail) | (simp; omega)) qJ) (by first | omega | (simp <;> fail) | (simp; omega)) ?_ | refine R_cut_sub rfl rfl _ _ _ _ rfl Ud.h In.h rfl rfl (by first | exact .no _ | exact .yes rfl (by first | omega | (simp <;> fail) | (simp; omega)) qJ) (by first | exact .no _ | exact .yes rfl (by first | omega | (simp <;> fail) | (simp; omega)) qJ) (by first | omega | (simp <;> fail) | (simp; omega)) (by first | omega | (simp <;> fail) | (simp; omega)) (by (try simp only [Nat.sub_zero]); rfl) ?_ | refine R_cut rfl rfl _ _ _ _ rfl Ud.h In.h rfl (by first | exact each_map (fun _ => rfl) | assumption | (simp <;> fail)) (by (try simp only [List.length_map]); rfl) (by first | exact .no _ | exact .yes rfl (by first | omega | (simp <;> fail) | (simp; omega)) qJ) (by first | exact .no _ | exact .yes rfl (by first | omega | (simp <;> fail) | (simp; omega)) qJ) (by first | omega | (simp <;> fail) | (simp; omega)) (by first | omega | (simp <;> fail) | (simp; omega)) (by first | (simp only [List.drop_zero, Nat.sub_zero, ← List.map_drop, ← List.map_take]; rfl) | rfl) ?_ | refine R_cut_t rfl rfl _ _ _ _ rfl Ud.h In.h rfl (by first | exact each_map (fun _ => rfl) | assumption | (simp <;> fail)) (by (try simp only [List.length_map]); rfl) (by first | exact .no _ | exact .yes rfl (by first | omega | (simp <;> fail) | (simp; omega)) qJ) (by first | exact .no _ | exact .yes rfl (by first | omega | (simp <;> fail) | (simp; omega)) qJ) (by first | omega | (simp <;> fail) | (simp; omega)) (by first | omega | (simp <;> fail) | (simp; omega)) (by first | (simp only [List.drop_zero, Nat.sub_zero, ← List.map_drop, ← List.map_take]; rfl) | rfl) ?_ | refine R_clip rfl rfl rfl Ud.h In.h rfl (by first | exact each_map (fun _ => rfl) | assumption | (simp <;> fail)) rfl rfl (by first | exact rfl | (simp <;> fail)) (by first | exact rfl | (simp <;> fail)) ?_) | (refine zkN 15 ?_; first | refine R_lit0 rfl rfl _ rfl Ud.h In.h ?_) | (refine zkN 21 ?_; first | refine R_fn rfl rfl _ _ _ rfl (by repeat (first | exact Args.nil | (apply Args.cons; exact rfl))) (by repeat (first | exact Args.nil | (apply Args.cons; exact rfl))) ?_) | (refine zkN 31 ?_; first | refine R_nilc rfl rfl _ rfl rfl rfl ?_ | refine R_index rfl rfl rfl Ud.h Ud.h rfl In.h rfl (by first | omega | (simp <;> fail) | (simp; omega)) qJ (by first | omega | (simp <;> fail) | (simp; omega)) rfl rfl ?_))); exact zk.1) | fail)) : p := h ⟨k⟩
theorem uC {p q : Prop} (k : q) (h : ZK q → p := by (intro zk; first | ((first | (with_reducible (first | refine wk0 ?_ | refine wk1 ?_ | refine wk2 ?_ | refine wk3 ?_ | refine wk4 ?_ | refine wk5 ?_ | refine wk6 ?_ | refine wk7 ?_ | refine wk8 (by decide) ?_ | refine wk9 ?_ | refine wka ?_ | refine wkb ?_ | refine wkc ?_ | refine wkd ?_ | refine AW.at_region _ ?_)) | refine kct rfl ?_ | refine kcf rfl ?_); exact zk.1) | fail)) : p := h ⟨k⟩
end Go.Proofs.Ytmljglphegeilaa


namespace Go.Proofs.Ytmljglphegeilaa
set_option linter.unusedVariables false
set_option linter.unusedSimpArgs false
set_option linter.unnecessarySimpa false
open Go.RowKit
@[reducible] def iu3 := Ud.mk ud3
@[reducible] def iu4 := Ud.mk ud4
@[reducible] def iu22 := Ud.mk ud22
@[reducible] def iu23 := Ud.mk ud23
@[reducible] def iu25 := Ud.mk ud25
@[reducible] def iu26 := Ud.mk ud26
@[reducible] def iu34 := Ud.mk ud34
@[reducible] def iu37 := Ud.mk ud37
@[reducible] def iu39 := Ud.mk ud39
@[reducible] def iu42 := Ud.mk ud42
@[reducible] def iu44 := Ud.mk ud44
@[reducible] def iu46 := Ud.mk ud46
attribute [instance] iu3 iu4 iu22 iu23 iu25 iu26 iu34 iu37 iu39 iu42 iu44 iu46
@[reducible] def ii3 := In.mk inf3
@[reducible] def ii4 := In.mk inf4
@[reducible] def ii22 := In.mk inf22
@[reducible] def ii23 := In.mk inf23
@[reducible] def ii25 := In.mk inf25
@[reducible] def ii26 := In.mk inf26
@[reducible] def ii34 := In.mk inf34
@[reducible] def ii37 := In.mk inf37
@[reducible] def ii39 := In.mk inf39
@[reducible] def ii42 := In.mk inf42
@[reducible] def ii44 := In.mk inf44
@[reducible] def ii46 := In.mk inf46
attribute [instance] ii3 ii4 ii22 ii23 ii25 ii26 ii34 ii37 ii39 ii42 ii44 ii46
instance : Zr Try.prog 22 [.nl] := ⟨_, _, _, inf22, rfl, rfl⟩
instance : Zr Try.prog 25 [.t (.v (.int .i64 0)), .nl, .nl] := ⟨_, _, _, inf25, rfl, rfl⟩
instance : Zr Try.prog 26 [.nl] := ⟨_, _, _, inf26, rfl, rfl⟩
instance : Zr Try.prog 34 [.t (.v (.bool false)), .t (.v (.bool false)), .t (.v (.bool false)), .t (.v (.int .i64 0)), .nl, .t (.v (.int .i64 0)), .t (.v (.int .i64 0))] := ⟨_, _, _, inf34, rfl, rfl⟩
instance : Zr Try.prog 39 [.t (.v (.int .i64 0)), .t (.v (.int .i64 0)), .t (.v (.int .i64 0)), .t (.v (.bool false)), .nl] := ⟨_, _, _, inf39, rfl, rfl⟩
instance : Zr Try.prog 44 [.t (.v (.int .i64 0)), .t (.v (.int .i64 0)), .t (.v (.int .i64 0)), .t (.v (.int .i64 0))] := ⟨_, _, _, inf44, rfl, rfl⟩
instance : Zr Try.prog 46 [.t (.v (.int .i64 0)), .t (.v (.int .i64 0)), .t (.v (.int .i64 0))] := ⟨_, _, _, inf46, rfl, rfl⟩
instance : Bp Try.prog 25 [(0, 1), (1, 1), (2, 1)] := ⟨_, ud25, by kernel_rfl⟩
instance : Bp Try.prog 34 [(0, 1), (1, 1), (2, 1), (3, 1), (4, 1), (5, 1), (6, 1)] := ⟨_, ud34, by kernel_rfl⟩
instance : Bp Try.prog 39 [(0, 1), (1, 1), (2, 1), (3, 1), (4, 1)] := ⟨_, ud39, by kernel_rfl⟩
instance : Bp Try.prog 44 [(0, 1), (1, 1), (2, 1), (3, 1)] := ⟨_, ud44, by kernel_rfl⟩
instance : Bp Try.prog 46 [(0, 1), (1, 1), (2, 1)] := ⟨_, ud46, by kernel_rfl⟩
end Go.Proofs.Ytmljglphegeilaa


namespace Go.Proofs.Ytmljglphegeilaa
set_option linter.unusedVariables false
set_option linter.unusedSimpArgs false
set_option linter.unnecessarySimpa false
open Go.RowKit
set_option maxHeartbeats 32000000
attribute [local irreducible] AL AW RG Fin C Cd Cio thenQ blockQ retQ
set_option maxRecDepth 100000
theorem res_c (a b : Rst) : Cd Try.prog 27 [.agg ((tR a).map .t), .agg ((tR b).map .t)] (.t (.v (.bool (decide (a = b))))) [] := by
  obtain ⟨a1, a2, a3, a4⟩ := a
  obtain ⟨b1, b2, b3, b4⟩ := b
  simp only [tR, List.map_cons, List.map_nil]
  refine Cd.enter' Try.func27 rfl Try.ntmps27 rfl ?_
  repeat' (first | ((with_reducible refine kAL ?_); (first | refine uA ?_ | refine uS 10 (fun hb => ?_) (fun hb => ?_) | refine uS 17 (fun hb => ?_) (fun hb => ?_) | refine uS 24 (fun hb => ?_) (fun hb => ?_))) | refine uC ?_ | fail)
  all_goals refine Fin.q Try.results27 (.cons (.tmp rfl) .nil) [] (hr := (.t ?_))
  all_goals simp [*]
theorem ints_c (a b : List Int) (ha : a.length ≤ 1152921504606846976) : Cd Try.prog 9 [.ln (a.map tI), .ln (b.map tI)] (.t (.v (.bool (decide (a = b))))) [] := by
  have h1 : (a.map tI).length = a.length := List.length_map _
  have h2 : (b.map tI).length = b.length := List.length_map _
  refine Cd.enter' Try.func9 rfl Try.ntmps9 rfl ?_
  repeat' (first | refine uA ?_ | refine uC ?_ | refine kcp rfl (fun hc => ?_) (fun hc => ?_) | fail)
  · refine Fin.q Try.results9 (.cons (.tmp rfl) .nil) [] (hr := (.t ?_))
    have : a ≠ b := by rintro rfl; exact hc rfl
    simp [this]
  · refine AW.loopP (fun (i : Nat) => ∀ j, j < i → a.getD j 0 = b.getD j 0) (fun (i : Nat) => (pu (pu (pu (pu (pu (fun _ => .any) 0 (.ln (a.map tI))) 1 (.ln (b.map tI))) 4 (.t (.v (.bool false)))) 12 (i64 (a.map tI).length)) 13 (i64 i))) (fun (i : Nat) => []) (fun (i : Nat) => a.length + 1 - i) (0) ?_ ?_ ?_
    · intro j hj; omega
    · exact Wk.cq 0
    · intro i hi
      repeat' (first | refine uA ?_ | refine uR ?_ | refine uC ?_ | refine kcp rfl (fun hc => ?_) (fun hc => ?_) | refine AW.drawU (id := 6) mixed 0 qR ?_ | fail)
      · refine Fin.q Try.results9 (.cons (.tmp rfl) .nil) [] (hr := (.t ?_))
        have : a ≠ b := by rintro rfl; exact hc rfl
        simp [this]
      · refine ⟨i + 1, fun j hj => ?_, by omega, ?_⟩
        · by_cases e : j = i
          · subst e; exact Decidable.not_not.1 hc
          · exact hi j (by omega)
        · exact Wk.cq 0
      · refine Fin.q Try.results9 (.cons (.tmp rfl) .nil) [] (hr := (.t ?_))
        have : a = b := all_eq (z := 0) (by omega) fun j hj => hi j (by omega)
        simp [this]
theorem results_c (a b : List Rst) (ha : a.length ≤ 1152921504606846976) : Cd Try.prog 20 [.ln (a.map tR), .ln (b.map tR)] (.t (.v (.bool (decide (a = b))))) [] := by
  have h1 : (a.map tR).length = a.length := List.length_map _
  have h2 : (b.map tR).length = b.length := List.length_map _
  refine Cd.enter' Try.func20 rfl Try.ntmps20 rfl ?_
  repeat' (first | refine uA ?_ | refine uC ?_ | refine kcp rfl (fun hc => ?_) (fun hc => ?_) | fail)
  · refine Fin.q Try.results20 (.cons (.tmp rfl) .nil) [] (hr := (.t ?_))
    have : a ≠ b := by rintro rfl; exact hc rfl
    simp [this]
  · refine AW.loopP (fun (i : Nat) => ∀ j, j < i → a.getD j ⟨0, 0, 0, 0⟩ = b.getD j ⟨0, 0, 0, 0⟩) (fun (i : Nat) => (pu (pu (pu (pu (pu (fun _ => .any) 0 (.ln (a.map tR))) 1 (.ln (b.map tR))) 4 (.t (.v (.bool false)))) 12 (i64 (a.map tR).length)) 13 (i64 i))) (fun (i : Nat) => []) (fun (i : Nat) => a.length + 1 - i) (0) ?_ ?_ ?_
    · intro j hj; omega
    · exact Wk.cq 0
    · intro i hi
      repeat' (first | refine uA ?_ | ((with_reducible refine kRG ?_); (first | (refine kR 742 rfl ?_; first | refine R_idx rfl rfl 23 _ _ rfl ud23 inf44 (by decide) (by exact .inl rfl) rfl (by omega) _ (by with_reducible exact Int.toNat_natCast _) (by exact map_get (get_D (x := ⟨0, 0, 0, 0⟩) (by omega))) rfl (cs' := [_, _, _, _]) rfl ?_) | (refine kR 874 rfl ?_; first | refine uQ (res_c (a.getD i ⟨0, 0, 0, 0⟩) (b.getD i ⟨0, 0, 0, 0⟩)) 0 ?_) | refine uR ?_)) | refine uC ?_ | refine kcp rfl (fun hc => ?_) (fun hc => ?_) | refine kcn rfl (fun hc => ?_) (fun hc => ?_) | refine AW.drawU (id := 6) mixed 0 qR ?_ | fail)
      · refine Fin.q Try.results20 (.cons (.tmp rfl) .nil) [] (hr := (.t ?_))
        have : a ≠ b := by rintro rfl; simp at hc
        simp [this]
      · refine ⟨i + 1, fun j hj => ?_, by omega, ?_⟩
        · by_cases e : j = i
          · subst e; simpa using hc
          · exact hi j (by omega)
        · exact Wk.cq 0
      · refine Fin.q Try.results20 (.cons (.tmp rfl) .nil) [] (hr := (.t ?_))
        have : a = b := all_eq (z := ⟨0, 0, 0, 0⟩) (by omega) fun j hj => hi j (by omega)
        simp [this]
theorem cells_c (cap cap' : Int) (a b : List Int) (d d' : List Rst) (ha : a.length ≤ 1152921504606846976) (hd : d.length ≤ 1152921504606846976) :
    Cd Try.prog 8 [.agg [i64 cap, .ln (a.map tI), .ln (d.map tR)], .agg [i64 cap', .ln (b.map tI), .ln (d'.map tR)]] (.t (.v (.bool (decide (cap = cap' ∧ a = b ∧ d = d'))))) [] := by
  refine Cd.enter' Try.func8 rfl Try.ntmps8 rfl ?_
  repeat' (first | ((with_reducible refine kAL ?_); (first | (refine kL 298 rfl ?_; first | (refine uK (ints_c _ _ ?zq0) ?_; (case zq0 => assumption))) | (refine kL 650 rfl ?_; first | (refine uK (results_c _ _ ?zq0) ?_; (case zq0 => assumption))) | refine uA ?_ | refine uS 10 (fun hb => ?_) (fun hb => ?_) | refine uS 17 (fun hb => ?_) (fun hb => ?_))) | refine uC ?_ | fail)
  all_goals refine Fin.q Try.results8 (.cons (.tmp rfl) .nil) [] (hr := (.t ?_))
  all_goals simp [*]
end Go.Proofs.Ytmljglphegeilaa


namespace Go.Proofs.Ytmljglphegeilaa
set_option linter.unusedVariables false
set_option linter.unusedSimpArgs false
set_option linter.unnecessarySimpa false
open Go.RowKit
set_option maxHeartbeats 32000000
attribute [local irreducible] AL AW RG Fin C Cd Cio thenQ blockQ retQ
set_option maxRecDepth 100000
theorem clone_R (l : List Rst) (h : l.length ≤ 4398046511104) : Cd Try.prog 32 [.ln (l.map tR)] (.sl 0 0 l.length) [.row 0 44 4 (l.map tR)] := by
  refine Cd.enter' Try.func32 rfl Try.ntmps32 rfl ?_
  repeat' (first | ((with_reducible refine kAL ?_); (first | (refine kL 745 rfl ?_; first | refine A_eqnil rfl rfl 23 _ _ rfl ud23 rfl (fun b hb => ?_)) | refine uA ?_)) | refine uC ?_ | refine kcc rfl (fun hc => ?_) (fun hc => ?_) | fail)
  · have hl : l = [] := by simpa using hb hc
    subst hl
    refine Fin.wk (Wk.own 2 rfl 44 4 (.push rfl rfl)) ?_
    exact Fin.q Try.results32 (.cons (.tmp rfl) .nil) [0]
  · exact Fin.q Try.results32 (.cons (.tmp rfl) .nil) [0]
end Go.Proofs.Ytmljglphegeilaa


namespace Go.Proofs.Ytmljglphegeilaa
set_option linter.unusedVariables false
set_option linter.unusedSimpArgs false
set_option linter.unnecessarySimpa false
open Go.RowKit
set_option maxHeartbeats 32000000
attribute [local irreducible] AL AW RG Fin C Cd Cio thenQ blockQ retQ
set_option maxRecDepth 100000
theorem copied_c (cap : Int) (l : List Int) (d : List Rst) (hl : l.length ≤ 17592186044416) (hd : d.length ≤ 4398046511104) :
    Cd Try.prog 28 [.agg [i64 cap, .ln (l.map tI), .ln (d.map tR)]] (.agg [i64 cap, .sl 0 0 l.length, .sl 1 0 d.length]) [.row 0 3 1 (l.map tI), .row 0 44 4 (d.map tR)] := by
  refine Cd.enter' Try.func28 rfl Try.ntmps28 rfl ?_
  repeat' (first | refine uA ?_ | ((with_reducible refine kRG ?_); (first | (refine kR 554 rfl ?_; first | (refine uQ (clone_I _ ?zq0) 2 ?_; (case zq0 => assumption))) | (refine kR 1034 rfl ?_; first | (refine uQ (clone_R _ ?zq0) 3 ?_; (case zq0 => assumption))) | refine uR ?_)) | refine uC ?_ | refine AW.drawU (id := 1) mixed 4 qR ?_ | fail)
  exact Fin.q Try.results28 (.cons (.agg rfl rfl ud25 rfl inf25 (us := [_, _, _]) rfl rfl) .nil) [2, 3]
theorem fifoNew_c (cap t : Int) : Cd Try.prog 22 [i64 cap, i64 t] (.agg [i64 cap, .nl, .sl 0 0 (max (min t 64) 0).toNat]) [.row 0 44 4 ((List.replicate (max (min t 64) 0).toNat (⟨0, 0, 0, 0⟩ : Rst)).map tR)] := by
  refine Cd.enter' Try.func22 rfl Try.ntmps22 rfl ?_
  repeat' (first | ((with_reducible refine kAL ?_); (first | (refine kL 752 rfl ?_; first | refine A_make rfl rfl 23 _ _ rfl ud23 inf44 rfl (zs := [(.v (.int .i64 0)), (.v (.int .i64 0)), (.v (.int .i64 0)), (.v (.int .i64 0))]) rfl rfl rfl (max (min t 64) 0).toNat (by omega) (by omega) qB qB (by exact rep_map (f := tR) (x := ⟨_, _, _, _⟩)) (.push qL qN) ?_) | refine uA ?_)) | refine uC ?_ | fail)
  exact Fin.q Try.results22 (.cons (.agg rfl rfl ud25 rfl inf25 (us := [_, _, _]) rfl rfl) .nil) [1]
theorem ftold_c (cap : Int) (l : List Int) (d : List Rst) (k1 k2 : Nat) (t s k v : Int) :
    Cio Try.prog 29 [.agg [i64 cap, .sl 0 k1 l.length, .sl 1 k2 d.length], i64 t, i64 s, i64 k, i64 v] [.row k1 3 1 (l.map tI), .row k2 44 4 (d.map tR)]
      (.agg [i64 cap, .sl 0 k1 l.length, .sl 1 k2 d.length]) [.row k1 3 1 (l.map tI), .row k2 44 4 ((setR d t ⟨s, 0, k, v⟩).map tR)] := by
  by_cases h0 : 0 ≤ t
  · by_cases h1 : t < d.length
    · rw [setR_yes h0 h1]
      obtain ⟨i, rfl⟩ := Int.eq_ofNat_of_zero_le h0
      rw [Int.toNat_natCast]
      have h2 : i < d.length := by omega
      obtain ⟨x, hx⟩ : ∃ x, d[i]? = some x := ⟨_, List.getElem?_eq_getElem h2⟩
      refine Cio.enter' Try.func29 rfl Try.ntmps29 rfl qM ?_
      repeat' (first | refine uA ?_ | refine uC ?_ | fail)
      all_goals exact Fin.q Try.results29 (.cons (.agg rfl rfl ud25 rfl inf25 (us := [_, _, _]) rfl rfl) .nil) []
    · rw [setR_no (fun h => h1 h.2)]
      refine Cio.enter' Try.func29 rfl Try.ntmps29 rfl qM ?_
      repeat' (first | refine uA ?_ | refine uC ?_ | fail)
      all_goals exact Fin.q Try.results29 (.cons (.agg rfl rfl ud25 rfl inf25 (us := [_, _, _]) rfl rfl) .nil) []
  · rw [setR_no (fun h => h0 h.1)]
    refine Cio.enter' Try.func29 rfl Try.ntmps29 rfl qM ?_
    repeat' (first | refine uA ?_ | refine uC ?_ | fail)
    all_goals exact Fin.q Try.results29 (.cons (.agg rfl rfl ud25 rfl inf25 (us := [_, _, _]) rfl rfl) .nil) []
theorem told_n (cap : Int) (l : List Int) (d : List Rst) (k1 k2 : Nat) (t s k v : Int) {n m : Nat} (hn : n = l.length) (hm : m = d.length) :
    Cio Try.prog 29 [.agg [i64 cap, .sl 0 k1 n, .sl 1 k2 m], i64 t, i64 s, i64 k, i64 v] [.row k1 3 1 (l.map tI), .row k2 44 4 (d.map tR)]
      (.agg [i64 cap, .sl 0 k1 n, .sl 1 k2 m]) [.row k1 3 1 (l.map tI), .row k2 44 4 ((setR d t ⟨s, 0, k, v⟩).map tR)] := by
  subst hn hm
  exact ftold_c cap l d k1 k2 t s k v
def appl (lifo : Bool) (cap : Int) (l : List Int) (d : List Rst) (t s k v : Int) : List Int × List Rst :=
  if k = 8 then if (l.length : Int) ≥ cap then (l, setR d t ⟨s, 0, 10, 0⟩) else (l ++ [v], setR d t ⟨s, 0, 0, 0⟩)
  else if k = 9 then (if l.length = 0 then (l, setR d t ⟨s, 0, 10, 0⟩) else if lifo then (l.take (l.length - 1), setR d t ⟨s, 0, 0, l.getD (l.length - 1) 0⟩) else (l.drop 1, setR d t ⟨s, 0, 0, l.getD 0 0⟩))
  else if k = 5 then (l, setR d t ⟨s, 0, 0, l.length⟩)
  else if k = 6 then (l, setR d t ⟨s, 0, 0, cap⟩)
  else (l, setR d t ⟨s, 0, 1, 0⟩)
set_option maxHeartbeats 1000000 in
theorem fifoApply_c (cap : Int) (l : List Int) (d : List Rst) (t s k ar v : Int) (hl : l.length ≤ 17592186044400) (hd : d.length ≤ 4398046511104) :
    Cd Try.prog 21 [.agg [i64 cap, .ln (l.map tI), .ln (d.map tR)], i64 t, i64 s, .agg [i64 k, i64 ar, i64 v, .any, .any]]
      (.agg [i64 cap, .sl 0 0 (appl false cap l d t s k v).1.length, .sl 1 0 d.length]) [.row 0 3 1 ((appl false cap l d t s k v).1.map tI), .row 0 44 4 ((appl false cap l d t s k v).2.map tR)] := by
  refine Cd.enter' Try.func21 rfl Try.ntmps21 rfl ?_
  repeat' (first | ((with_reducible refine kAL ?_); (first | (refine kL 906 rfl ?_; first | (refine uK (copied_c _ _ _ ?zq0 ?zq1) ?_; (case zq0 => omega); (case zq1 => omega))) | (refine kL 938 rfl ?_; first | (refine uI [3, 4] (told_n _ _ _ _ _ _ _ _ _ ?zq0 ?zq1) ?_; (case zq0 => simp); (case zq1 => simp)) | (refine uI [6, 4] (told_n _ _ _ _ _ _ _ _ _ ?zq0 ?zq1) ?_; (case zq0 => simp); (case zq1 => simp))) | (refine kL 719 rfl ?_; first | refine A_lit rfl rfl 22 1 _ rfl ud22 inf3 (.cons rfl .nil) (els := [[_]]) rfl (by exact (rfl : _ = List.map tI [_])) rfl (Nat.ne_of_beq_eq_false rfl) (Nat.le_of_ble_eq_true rfl) (Nat.le_of_ble_eq_true rfl) (.push qL qN) ?_) | (refine kL 554 rfl ?_; first | (refine uK (clone_I (l.drop 1) ?zq0) ?_; (case zq0 => simp; omega))) | refine uA ?_)) | refine uC ?_ | refine kcp rfl (fun hc => ?_) (fun hc => ?_) | fail)
  · (refine Fin.mkv (rs := _) Try.results21 (.cons (.agg rfl rfl ud25 rfl inf25 (us := [_, _, _]) rfl rfl) .nil) [3, 4] (by decide) rfl ?_ ?_ ?_ <;> repeat' (skip; first | exact .nil | refine .cons rfl ?_ ?_ | refine .cons ?_ ?_ | refine .row ?_ | refine .rset ?_ | refine .box ?_ | exact .gone | refine .aggL ?_ | refine .tupL ?_ | refine .old rfl ?_ | refine .new rfl rfl rfl ?_ | exact .nl | exact .optr rfl | exact .nptr rfl rfl rfl | refine .t ?_ | exact .any _ | rfl))
    all_goals simp [appl, setR_len, *]
  · (refine Fin.mkv (rs := _) Try.results21 (.cons (.agg rfl rfl ud25 rfl inf25 (us := [_, _, _]) rfl rfl) .nil) [3, 4] (by decide) rfl ?_ ?_ ?_ <;> repeat' (skip; first | exact .nil | refine .cons rfl ?_ ?_ | refine .cons ?_ ?_ | refine .row ?_ | refine .rset ?_ | refine .box ?_ | exact .gone | refine .aggL ?_ | refine .tupL ?_ | refine .old rfl ?_ | refine .new rfl rfl rfl ?_ | exact .nl | exact .optr rfl | exact .nptr rfl rfl rfl | refine .t ?_ | exact .any _ | rfl))
    all_goals simp [appl, setR_len, *]
  · have hn : l = [] := List.eq_nil_of_length_eq_zero (by omega)
    subst hn
    (refine Fin.mkv (rs := _) Try.results21 (.cons (.agg rfl rfl ud25 rfl inf25 (us := [_, _, _]) rfl rfl) .nil) [3, 4] (by decide) rfl ?_ ?_ ?_ <;> repeat' (skip; first | exact .nil | refine .cons rfl ?_ ?_ | refine .cons ?_ ?_ | refine .row ?_ | refine .rset ?_ | refine .box ?_ | exact .gone | refine .aggL ?_ | refine .tupL ?_ | refine .old rfl ?_ | refine .new rfl rfl rfl ?_ | exact .nl | exact .optr rfl | exact .nptr rfl rfl rfl | refine .t ?_ | exact .any _ | rfl))
    all_goals simp [appl, setR_len, *]
  · have hn : l ≠ [] := by rintro rfl; simp at hc
    (refine Fin.mkv (rs := _) Try.results21 (.cons (.agg rfl rfl ud25 rfl inf25 (us := [_, _, _]) rfl rfl) .nil) [6, 4] (by decide) rfl ?_ ?_ ?_ <;> repeat' (skip; first | exact .nil | refine .cons rfl ?_ ?_ | refine .cons ?_ ?_ | refine .row ?_ | refine .rset ?_ | refine .box ?_ | exact .gone | refine .aggL ?_ | refine .tupL ?_ | refine .old rfl ?_ | refine .new rfl rfl rfl ?_ | exact .nl | exact .optr rfl | exact .nptr rfl rfl rfl | refine .t ?_ | exact .any _ | rfl))
    all_goals simp [appl, setR_len, List.map_tail, *]
  · (refine Fin.mkv (rs := _) Try.results21 (.cons (.agg rfl rfl ud25 rfl inf25 (us := [_, _, _]) rfl rfl) .nil) [3, 4] (by decide) rfl ?_ ?_ ?_ <;> repeat' (skip; first | exact .nil | refine .cons rfl ?_ ?_ | refine .cons ?_ ?_ | refine .row ?_ | refine .rset ?_ | refine .box ?_ | exact .gone | refine .aggL ?_ | refine .tupL ?_ | refine .old rfl ?_ | refine .new rfl rfl rfl ?_ | exact .nl | exact .optr rfl | exact .nptr rfl rfl rfl | refine .t ?_ | exact .any _ | rfl))
    all_goals simp [appl, setR_len, *]
  · (refine Fin.mkv (rs := _) Try.results21 (.cons (.agg rfl rfl ud25 rfl inf25 (us := [_, _, _]) rfl rfl) .nil) [3, 4] (by decide) rfl ?_ ?_ ?_ <;> repeat' (skip; first | exact .nil | refine .cons rfl ?_ ?_ | refine .cons ?_ ?_ | refine .row ?_ | refine .rset ?_ | refine .box ?_ | exact .gone | refine .aggL ?_ | refine .tupL ?_ | refine .old rfl ?_ | refine .new rfl rfl rfl ?_ | exact .nl | exact .optr rfl | exact .nptr rfl rfl rfl | refine .t ?_ | exact .any _ | rfl))
    all_goals simp [appl, setR_len, *]
  · (refine Fin.mkv (rs := _) Try.results21 (.cons (.agg rfl rfl ud25 rfl inf25 (us := [_, _, _]) rfl rfl) .nil) [3, 4] (by decide) rfl ?_ ?_ ?_ <;> repeat' (skip; first | exact .nil | refine .cons rfl ?_ ?_ | refine .cons ?_ ?_ | refine .row ?_ | refine .rset ?_ | refine .box ?_ | exact .gone | refine .aggL ?_ | refine .tupL ?_ | refine .old rfl ?_ | refine .new rfl rfl rfl ?_ | exact .nl | exact .optr rfl | exact .nptr rfl rfl rfl | refine .t ?_ | exact .any _ | rfl))
    all_goals simp [appl, setR_len, *]
end Go.Proofs.Ytmljglphegeilaa


namespace Go.Proofs.Ytmljglphegeilaa
set_option linter.unusedVariables false
set_option linter.unusedSimpArgs false
set_option linter.unnecessarySimpa false
open Go.RowKit
set_option maxHeartbeats 32000000
attribute [local irreducible] AL AW RG Fin C Cd Cio thenQ blockQ retQ
set_option maxRecDepth 100000
end Go.Proofs.Ytmljglphegeilaa


namespace Go.Proofs.Ytmljglphegeilaa
set_option linter.unusedVariables false
set_option linter.unusedSimpArgs false
set_option linter.unnecessarySimpa false
open Go.RowKit
set_option maxHeartbeats 32000000
attribute [local irreducible] AL AW RG Fin C Cd Cio thenQ blockQ retQ
set_option maxRecDepth 100000
theorem new12_c : Cd Try.prog 22 [i64 1, i64 2] (.agg [i64 1, .nl, .sl 0 0 2]) [.row 0 44 4 [tR ⟨0, 0, 0, 0⟩, tR ⟨0, 0, 0, 0⟩]] := fifoNew_c 1 2
theorem put1_c : Cd Try.prog 21 [.agg [i64 1, .ln [], .ln [tR ⟨0, 0, 0, 0⟩, tR ⟨0, 0, 0, 0⟩]], i64 0, i64 1, .agg [i64 8, i64 0, i64 5, .any, .any]]
    (.agg [i64 1, .sl 0 0 1, .sl 1 0 2]) [.row 0 3 1 [tI 5], .row 0 44 4 [tR ⟨1, 0, 0, 0⟩, tR ⟨0, 0, 0, 0⟩]] :=
  fifoApply_c 1 [] [⟨0, 0, 0, 0⟩, ⟨0, 0, 0, 0⟩] 0 1 8 0 5 (by simp) (by simp)
theorem put2_c : Cd Try.prog 21 [.agg [i64 1, .ln [tI 5], .ln [tR ⟨1, 0, 0, 0⟩, tR ⟨0, 0, 0, 0⟩]], i64 1, i64 1, .agg [i64 8, i64 0, i64 6, .any, .any]]
    (.agg [i64 1, .sl 0 0 1, .sl 1 0 2]) [.row 0 3 1 [tI 5], .row 0 44 4 [tR ⟨1, 0, 0, 0⟩, tR ⟨1, 0, 10, 0⟩]] :=
  fifoApply_c 1 [5] [⟨1, 0, 0, 0⟩, ⟨0, 0, 0, 0⟩] 1 1 8 0 6 (by simp) (by simp)
theorem take_c : Cd Try.prog 21 [.agg [i64 1, .ln [tI 5], .ln [tR ⟨1, 0, 0, 0⟩, tR ⟨1, 0, 10, 0⟩]], i64 0, i64 2, .agg [i64 9, i64 0, i64 0, .any, .any]]
    (.agg [i64 1, .sl 0 0 0, .sl 1 0 2]) [.row 0 3 1 [], .row 0 44 4 [tR ⟨2, 0, 0, 5⟩, tR ⟨1, 0, 10, 0⟩]] :=
  fifoApply_c 1 [5] [⟨1, 0, 0, 0⟩, ⟨1, 0, 10, 0⟩] 0 2 9 0 0 (by simp) (by simp)
set_option maxHeartbeats 1000000 in
theorem awake08_c : Cd Try.prog 10 [] (.t (.v (.bool true))) [] := by
  refine Cd.enter' Try.func10 rfl Try.ntmps10 rfl ?_
  repeat' (first | ((with_reducible refine kAL ?_); (first | (refine kL 714 rfl ?_; first | refine uK (new12_c) ?_) | (refine kL 682 rfl ?_; first | refine uK (put1_c) ?_ | refine uK (put2_c) ?_ | refine uK (take_c) ?_) | refine uA ?_ | refine uS 17 (fun hb => ?_) (fun hb => ?_) | refine uS 23 (fun hb => ?_) (fun hb => ?_) | refine uS 31 (fun hb => ?_) (fun hb => ?_) | refine uS 37 (fun hb => ?_) (fun hb => ?_) | refine uS 45 (fun hb => ?_) (fun hb => ?_) | refine uS 53 (fun hb => ?_) (fun hb => ?_))) | refine uC ?_ | refine kcp rfl (fun hc => ?_) (fun hc => ?_) | refine kcn rfl (fun hc => ?_) (fun hc => ?_) | refine kcb rfl (fun hc => ?_) (fun hc => ?_) | refine kcc rfl (fun hc => ?_) (fun hc => ?_) | fail)
  all_goals ((first | exact Fin.q Try.results10 (.cons (.tmp rfl) .nil) [] | refine Fin.q Try.results10 (.cons (.tmp rfl) .nil) [] (hr := (.t ?_)) | refine Fin.mkv (rs := _) Try.results10 (.cons (.tmp rfl) .nil) [] (by decide) rfl ?_ ?_ ?_ <;> repeat' (skip; first | exact .nil | refine .cons rfl ?_ ?_ | refine .cons ?_ ?_ | refine .row ?_ | refine .rset ?_ | refine .box ?_ | exact .gone | refine .aggL ?_ | refine .tupL ?_ | refine .old rfl ?_ | refine .new rfl rfl rfl ?_ | exact .nl | exact .optr rfl | exact .nptr rfl rfl rfl | refine .t ?_ | exact .any _ | rfl)))
end Go.Proofs.Ytmljglphegeilaa


namespace Go.Proofs.Ytmljglphegeilaa
set_option linter.unusedVariables false
set_option linter.unusedSimpArgs false
set_option linter.unnecessarySimpa false
open Go.RowKit
set_option maxHeartbeats 32000000
attribute [local irreducible] AL AW RG Fin C Cd Cio thenQ blockQ retQ
set_option maxRecDepth 100000
set_option maxHeartbeats 8000000
theorem Rst_ext {a b : Rst} (h : a.seq = b.seq ∧ a.cas = b.cas ∧ a.code = b.code ∧ a.value = b.value) : a = b := by
  obtain ⟨a1, a2, a3, a4⟩ := a; obtain ⟨b1, b2, b3, b4⟩ := b; obtain ⟨h1, h2, h3, h4⟩ := h; dsimp only at h1 h2 h3 h4; rw [h1, h2, h3, h4]
theorem eqI_c (a b : List Int) (ha : a.length ≤ 1152921504606846976) : Cd Try.prog 18 [.ln (a.map tI), .ln (b.map tI)] (bo (decide (a = b))) [] := by
  have h1 : (a.map tI).length = a.length := List.length_map _
  have h2 : (b.map tI).length = b.length := List.length_map _
  refine Cd.enter' Try.func18 rfl Try.ntmps18 rfl ?_
  repeat' (first | refine uA ?_ | refine uR ?_ | refine uC ?_ | refine kcp rfl (fun hc => ?_) (fun hc => ?_) | refine kcn rfl (fun hc => ?_) (fun hc => ?_) | refine kcb rfl (fun hc => ?_) (fun hc => ?_) | refine kcc rfl (fun hc => ?_) (fun hc => ?_) | refine AW.drawU (id := 6) mixed 0 qR ?_ | fail)
  · (first | exact Fin.q Try.results18 (.cons (.tmp rfl) .nil) [] | refine Fin.q Try.results18 (.cons (.tmp rfl) .nil) [] (hr := (.t ?_)) | refine Fin.mkv (rs := _) Try.results18 (.cons (.tmp rfl) .nil) [] (by decide) rfl ?_ ?_ ?_ <;> repeat' (skip; first | exact .nil | refine .cons rfl ?_ ?_ | refine .cons ?_ ?_ | refine .row ?_ | refine .rset ?_ | refine .box ?_ | exact .gone | refine .aggL ?_ | refine .tupL ?_ | refine .old rfl ?_ | refine .new rfl rfl rfl ?_ | exact .nl | exact .optr rfl | exact .nptr rfl rfl rfl | refine .t ?_ | exact .any _ | rfl))
    have : a ≠ b := by rintro rfl; exact hc rfl
    simp [this]
  · refine AW.loopP (fun (i : Nat) => ∀ j, j < i → a.getD j 0 = b.getD j 0) (fun (i : Nat) => (pu (pu (pu (pu (pu (fun _ => .any) 0 (.ln (a.map tI))) 1 (.ln (b.map tI))) 4 (bo false)) 12 (i64 (a.map tI).length)) 13 (i64 i))) (fun (i : Nat) => []) (fun (i : Nat) => a.length + 1 - i) (0) ?_ ?_ ?_
    · intro j hj; omega
    · exact Wk.cq 0
    · intro i hi
      repeat' (first | refine uA ?_ | ((with_reducible refine kRG ?_); (first | (refine kR 710 rfl ?_; first | refine R_idx rfl rfl 22 _ _ rfl ud22 inf3 (by decide) (by first | exact .inl rfl | exact .inr rfl) rfl (by first | omega | (simp <;> fail) | (simp; omega)) _ (by first | with_reducible exact Int.toNat_natCast _ | exact rfl) (by first | exact map_get (by assumption) | assumption | exact map_get (get_D (x := (0 : Int)) (by omega))) rfl (cs' := [_]) rfl ?_) | (refine kR 98 rfl ?_; first | refine R_load_rp rfl rfl 3 _ rfl ud3 rfl rfl rfl (by first | exact map_get (by assumption) | assumption | exact map_get (get_D (x := (0 : Int)) (by omega))) rfl ?_) | refine uR ?_)) | refine uC ?_ | refine kcp rfl (fun hc => ?_) (fun hc => ?_) | refine kcn rfl (fun hc => ?_) (fun hc => ?_) | refine kcb rfl (fun hc => ?_) (fun hc => ?_) | refine kcc rfl (fun hc => ?_) (fun hc => ?_) | refine AW.drawU (id := 6) mixed 0 qR ?_ | fail)
      · (first | exact Fin.q Try.results18 (.cons (.tmp rfl) .nil) [] | refine Fin.q Try.results18 (.cons (.tmp rfl) .nil) [] (hr := (.t ?_)) | refine Fin.mkv (rs := _) Try.results18 (.cons (.tmp rfl) .nil) [] (by decide) rfl ?_ ?_ ?_ <;> repeat' (skip; first | exact .nil | refine .cons rfl ?_ ?_ | refine .cons ?_ ?_ | refine .row ?_ | refine .rset ?_ | refine .box ?_ | exact .gone | refine .aggL ?_ | refine .tupL ?_ | refine .old rfl ?_ | refine .new rfl rfl rfl ?_ | exact .nl | exact .optr rfl | exact .nptr rfl rfl rfl | refine .t ?_ | exact .any _ | rfl))
        have : a ≠ b := by
          rintro rfl; exact absurd hc (by simp)
        simp [this]
      · refine ⟨i + 1, fun j hj => ?_, by omega, ?_⟩
        · by_cases e : j = i
          · subst e; exact (by simpa using hc)
          · exact hi j (by omega)
        · exact Wk.cq 0
      · (first | exact Fin.q Try.results18 (.cons (.tmp rfl) .nil) [] | refine Fin.q Try.results18 (.cons (.tmp rfl) .nil) [] (hr := (.t ?_)) | refine Fin.mkv (rs := _) Try.results18 (.cons (.tmp rfl) .nil) [] (by decide) rfl ?_ ?_ ?_ <;> repeat' (skip; first | exact .nil | refine .cons rfl ?_ ?_ | refine .cons ?_ ?_ | refine .row ?_ | refine .rset ?_ | refine .box ?_ | exact .gone | refine .aggL ?_ | refine .tupL ?_ | refine .old rfl ?_ | refine .new rfl rfl rfl ?_ | exact .nl | exact .optr rfl | exact .nptr rfl rfl rfl | refine .t ?_ | exact .any _ | rfl))
        have : a = b := all_eq (z := (0 : Int)) (by omega) fun j hj => hi j (by omega)
        simp [this]
theorem eqRs_c (a b : List Rst) (ha : a.length ≤ 1152921504606846976) : Cd Try.prog 19 [.ln (a.map tR), .ln (b.map tR)] (bo (decide (a = b))) [] := by
  have h1 : (a.map tR).length = a.length := List.length_map _
  have h2 : (b.map tR).length = b.length := List.length_map _
  refine Cd.enter' Try.func19 rfl Try.ntmps19 rfl ?_
  repeat' (first | refine uA ?_ | ((with_reducible refine kRG ?_); (first | (refine kR 1417 rfl ?_; first | refine R_nes rfl rfl 44 44 _ _ rfl rfl rfl (by kernel_rfl) (fun w => eqs44 9998 _ _ _ _ _ _ _ _ w) (by first | exact not_dec_true (by first | (simp only [and_true]; omega) | (simp only [and_true]; done) | omega) | exact not_dec_false (by first | (simp only [and_true]; omega) | (simp only [and_true]; done) | omega) | rfl) ?_) | refine uR ?_)) | refine uC ?_ | refine kcp rfl (fun hc => ?_) (fun hc => ?_) | refine kcn rfl (fun hc => ?_) (fun hc => ?_) | refine kcb rfl (fun hc => ?_) (fun hc => ?_) | refine kcc rfl (fun hc => ?_) (fun hc => ?_) | refine AW.drawU (id := 6) mixed 0 qR ?_ | fail)
  · (first | exact Fin.q Try.results19 (.cons (.tmp rfl) .nil) [] | refine Fin.q Try.results19 (.cons (.tmp rfl) .nil) [] (hr := (.t ?_)) | refine Fin.mkv (rs := _) Try.results19 (.cons (.tmp rfl) .nil) [] (by decide) rfl ?_ ?_ ?_ <;> repeat' (skip; first | exact .nil | refine .cons rfl ?_ ?_ | refine .cons ?_ ?_ | refine .row ?_ | refine .rset ?_ | refine .box ?_ | exact .gone | refine .aggL ?_ | refine .tupL ?_ | refine .old rfl ?_ | refine .new rfl rfl rfl ?_ | exact .nl | exact .optr rfl | exact .nptr rfl rfl rfl | refine .t ?_ | exact .any _ | rfl))
    have : a ≠ b := by rintro rfl; exact hc rfl
    simp [this]
  · refine AW.loopP (fun (i : Nat) => ∀ j, j < i → a.getD j default = b.getD j default) (fun (i : Nat) => (pu (pu (pu (pu (pu (fun _ => .any) 0 (.ln (a.map tR))) 1 (.ln (b.map tR))) 4 (bo false)) 12 (i64 (a.map tR).length)) 13 (i64 i))) (fun (i : Nat) => []) (fun (i : Nat) => a.length + 1 - i) (0) ?_ ?_ ?_
    · intro j hj; omega
    · exact Wk.cq 0
    · intro i hi
      repeat' (first | refine uA ?_ | ((with_reducible refine kRG ?_); (first | (refine kR 742 rfl ?_; first | refine R_idx rfl rfl 23 _ _ rfl ud23 inf44 (by decide) (by first | exact .inl rfl | exact .inr rfl) rfl (by first | omega | (simp <;> fail) | (simp; omega)) _ (by first | with_reducible exact Int.toNat_natCast _ | exact rfl) (by first | exact map_get (by assumption) | assumption | exact map_get (get_D (x := (default : Rst)) (by omega))) rfl (cs' := [_, _, _, _]) rfl ?_) | (refine kR 1410 rfl ?_; first | refine R_load_rp_agg rfl rfl 44 _ rfl ud44 rfl inf44 rfl rfl (by first | exact map_get (by assumption) | assumption | exact map_get (get_D (x := (default : Rst)) (by omega))) (us' := [_, _, _, _]) rfl rfl ?_) | (refine kR 1417 rfl ?_; first | refine R_nes rfl rfl 44 44 _ _ rfl rfl rfl (by kernel_rfl) (fun w => eqs44 9998 _ _ _ _ _ _ _ _ w) (by first | exact not_dec_true (by first | (simp only [and_true]; omega) | (simp only [and_true]; done) | omega) | exact not_dec_false (by first | (simp only [and_true]; omega) | (simp only [and_true]; done) | omega) | rfl) ?_) | refine uR ?_)) | refine uC ?_ | refine kcp rfl (fun hc => ?_) (fun hc => ?_) | refine kcn rfl (fun hc => ?_) (fun hc => ?_) | refine kcb rfl (fun hc => ?_) (fun hc => ?_) | refine kcc rfl (fun hc => ?_) (fun hc => ?_) | refine AW.drawU (id := 6) mixed 0 qR ?_ | fail)
      · (first | exact Fin.q Try.results19 (.cons (.tmp rfl) .nil) [] | refine Fin.q Try.results19 (.cons (.tmp rfl) .nil) [] (hr := (.t ?_)) | refine Fin.mkv (rs := _) Try.results19 (.cons (.tmp rfl) .nil) [] (by decide) rfl ?_ ?_ ?_ <;> repeat' (skip; first | exact .nil | refine .cons rfl ?_ ?_ | refine .cons ?_ ?_ | refine .row ?_ | refine .rset ?_ | refine .box ?_ | exact .gone | refine .aggL ?_ | refine .tupL ?_ | refine .old rfl ?_ | refine .new rfl rfl rfl ?_ | exact .nl | exact .optr rfl | exact .nptr rfl rfl rfl | refine .t ?_ | exact .any _ | rfl))
        have : a ≠ b := by
          rintro rfl; exact absurd hc (by simp)
        simp [this]
      · refine ⟨i + 1, fun j hj => ?_, by omega, ?_⟩
        · by_cases e : j = i
          · subst e; exact Rst_ext (by simpa using hc)
          · exact hi j (by omega)
        · exact Wk.cq 0
      · (first | exact Fin.q Try.results19 (.cons (.tmp rfl) .nil) [] | refine Fin.q Try.results19 (.cons (.tmp rfl) .nil) [] (hr := (.t ?_)) | refine Fin.mkv (rs := _) Try.results19 (.cons (.tmp rfl) .nil) [] (by decide) rfl ?_ ?_ ?_ <;> repeat' (skip; first | exact .nil | refine .cons rfl ?_ ?_ | refine .cons ?_ ?_ | refine .row ?_ | refine .rset ?_ | refine .box ?_ | exact .gone | refine .aggL ?_ | refine .tupL ?_ | refine .old rfl ?_ | refine .new rfl rfl rfl ?_ | exact .nl | exact .optr rfl | exact .nptr rfl rfl rfl | refine .t ?_ | exact .any _ | rfl))
        have : a = b := all_eq (z := default) (by omega) fun j hj => hi j (by omega)
        simp [this]
theorem fifoSame_c (cap cap' : Int) (a b : List Int) (d d' : List Rst) (ha : a.length ≤ 1152921504606846976) (hd : d.length ≤ 1152921504606846976) :
    Cd Try.prog 7 [.agg [i64 cap, .ln (a.map tI), .ln (d.map tR)], .agg [i64 cap', .ln (b.map tI), .ln (d'.map tR)]] (bo (decide (cap = cap' ∧ a = b ∧ d = d'))) [] := by
  refine Cd.enter' Try.func7 rfl Try.ntmps7 rfl ?_
  repeat' (first | ((with_reducible refine kAL ?_); (first | (refine kL 586 rfl ?_; first | (refine uK (eqI_c _ _ ?zq0) ?_; (case zq0 => assumption))) | (refine kL 618 rfl ?_; first | (refine uK (eqRs_c _ _ ?zq0) ?_; (case zq0 => assumption))) | refine uA ?_ | refine uS 10 (fun hb => ?_) (fun hb => ?_) | refine uS 17 (fun hb => ?_) (fun hb => ?_))) | refine uC ?_ | refine kcp rfl (fun hc => ?_) (fun hc => ?_) | refine kcn rfl (fun hc => ?_) (fun hc => ?_) | refine kcb rfl (fun hc => ?_) (fun hc => ?_) | refine kcc rfl (fun hc => ?_) (fun hc => ?_) | fail)
  all_goals (first | exact Fin.q Try.results7 (.cons (.tmp rfl) .nil) [] | refine Fin.q Try.results7 (.cons (.tmp rfl) .nil) [] (hr := (.t ?_)) | refine Fin.mkv (rs := _) Try.results7 (.cons (.tmp rfl) .nil) [] (by decide) rfl ?_ ?_ ?_ <;> repeat' (skip; first | exact .nil | refine .cons rfl ?_ ?_ | refine .cons ?_ ?_ | refine .row ?_ | refine .rset ?_ | refine .box ?_ | exact .gone | refine .aggL ?_ | refine .tupL ?_ | refine .old rfl ?_ | refine .new rfl rfl rfl ?_ | exact .nl | exact .optr rfl | exact .nptr rfl rfl rfl | refine .t ?_ | exact .any _ | rfl))
  all_goals simp [*]
end Go.Proofs.Ytmljglphegeilaa


namespace Go.Proofs.Ytmljglphegeilaa
set_option linter.unusedVariables false
set_option linter.unusedSimpArgs false
set_option linter.unnecessarySimpa false
open Go.RowKit
theorem op_in {P : Program} {o : Oper} {a : Act} {w : World} {K K' : Act → World → Prop} {Q : Exit → Act → World → Prop} (lp k : Nat) (hnd : ∀ c, o.op ≠ .defer c) (hk : ∀ a w, K a w → K' a w) (h : o.wp P a w K Q) : o.wpIn (Fence.wide.inRound lp) k P a w K' Q := by
  refine ⟨fun _ _ => trivial, ?_⟩
  show o.uponIn _ _ _ _ _ _ ((o.semAt (some lp) a.eval).run P w)
  rw [Oper.semAt_some lp a.eval o hnd]
  unfold Oper.wp at h
  generalize (execOp a.eval o).run P w = r at *
  cases r with
  | halt h' w' => cases h' <;> exact h
  | ok n w' =>
    match n, h with
    | .value v, h => exact hk _ _ h
    | .skip, h => exact hk _ _ h
    | .defer x, h => exact hk _ _ h
    | .enter f args, h =>
      refine ⟨(fun e => by cases e), CallsIn.inRound lp (callsIn_wide.2 (Calls.mono h ?_))⟩
      intro e w'' he
      cases e with
      | returned v => exact hk _ _ he
      | panicked c => exact he
      | outgrown => exact he
    | .row r' args, h =>
      refine ⟨(fun e => by cases e), fun c cs _ => ?_⟩
      obtain ⟨v, w'', r, s⟩ := h c cs
      exact ⟨v, w'', hk _ _ r, stepsIn_wide.2 s⟩
theorem any_in {P : Program} {md : Region.Mode} {ops : Array Oper} {Q : Exit → Act → World → Prop} (lp k : Nat) (hQ : ¬ LetsOut Q) (hnd : ∀ (i : Nat) (o : Oper), ops[i]? = some o → ∀ c, o.op ≠ .defer c) : ∀ (fuel : Nat) (listed : Array Bool) (a : Act) (w : World), wpAny P md ops Q fuel listed a w → wpAnyIn (Fence.wide.inRound lp) k P md ops Q fuel listed a w := by
  intro fuel
  induction fuel with
  | zero => exact fun listed a w h => h
  | succ fuel ih =>
    intro listed a w h
    refine ⟨h.1, fun i hi => ?_⟩
    have h2 := h.2 i hi
    unfold wpOp at h2
    unfold wpOpIn
    cases ho : ops[i]? with
    | none => rw [ho] at h2; exact ih _ _ _ h2
    | some o =>
      rw [ho] at h2
      simp only at h2 ⊢
      split
      · rename_i hw
        rw [if_pos hw] at h2
        rcases h2 with h2 | ⟨_, h2⟩
        · exact op_in lp k (hnd i o ho) (fun a w h => ih _ _ _ h) h2
        · exact absurd h2 hQ
      · rename_i hw
        rw [if_neg hw] at h2
        exact ⟨fun _ _ => trivial, ih _ _ _ h2⟩
theorem draw_in {P : Program} {id : Nat} {l : List Oper} {n : Fr} {T : Nat → AV} {heap : List Ob} {Q : QS} (lp k : Nat) (hm : P.follows .mixedOrders = true) (m : Nat) {h1 : List Ob} (hh : heap ++ List.replicate m .hole = h1) (hQ : ∀ T h, ¬ Q .outgrown T h)
    (hnd : ∀ o ∈ l, ∀ c, o.op ≠ .defer c) (hr : RG P l.toArray n (fun Ds T2 h2 => chkD l (ancL [] l) (W_ Ds) = true ∧ Q .normal T2 h2) l [] T h1) {e : Env} {a : Act} {w : World} (hR : Rep e ⟨n, T, heap⟩ a w) : (Code.region id l.toArray true).wpIn (Fence.wide.inRound lp) k P (lift e n Q) a w := by
  obtain ⟨Ds, T2, h2, h3, h4, h5⟩ := hr
  rw [List.nil_append] at h4
  refine wpIn_region_any hm (any_in lp k (by rintro ⟨a, w, T, h, hq, _⟩; exact hQ T h hq) (fun i o ho => hnd o ?_) _ _ _ _ (draw_any h3 _ h4 h5 e a w (Wk.holes m hh e a w hR)))
  rw [List.getElem?_toArray] at ho
  exact List.mem_of_getElem? ho
end Go.Proofs.Ytmljglphegeilaa


namespace Go.Proofs.Ytmljglphegeilaa
set_option linter.unusedVariables false
set_option linter.unusedSimpArgs false
set_option linter.unnecessarySimpa false
open Go.RowKit
def sgm (m : Nat) (l : List Int) : Nat → List (List Int) × List Int
  | 0 => ([], [])
  | i + 1 => if i % m = 0 then ((if i = 0 then [] else (sgm m l i).1 ++ [(sgm m l i).2]), [l.getD i 0]) else ((sgm m l i).1, (sgm m l i).2 ++ [l.getD i 0])
def sgR (m : Nat) (l : List Int) (i : Nat) : List (List Int) := if i = 0 then [] else (sgm m l i).1 ++ [(sgm m l i).2]
theorem sgm_new {m : Nat} {l : List Int} {i : Nat} {x : Int} (h : i % m = 0) (hx : l[i]? = some x) : sgm m l (i + 1) = (sgR m l i, [x]) := by
  rw [sgm, if_pos h, List.getD_eq_getElem?_getD, hx]; rfl
theorem sgm_old {m : Nat} {l : List Int} {i : Nat} {x : Int} (h : i % m ≠ 0) (hx : l[i]? = some x) : sgm m l (i + 1) = ((sgm m l i).1, (sgm m l i).2 ++ [x]) := by
  rw [sgm, if_neg h, List.getD_eq_getElem?_getD, hx]; rfl
theorem sgR_0 (m : Nat) (l : List Int) : sgR m l 0 = [] := rfl
theorem sgR_s (m : Nat) (l : List Int) (i : Nat) : sgR m l (i + 1) = (sgm m l (i + 1)).1 ++ [(sgm m l (i + 1)).2] := rfl
theorem sgR_all {m : Nat} {l : List Int} : ∀ {i : Nat}, i ≤ l.length → (sgR m l i).flatten = l.take i
  | 0, _ => by rw [sgR_0]; simp
  | i + 1, h => by
    have hx := List.getElem?_eq_getElem (show i < l.length by omega)
    have ih := sgR_all (m := m) (l := l) (i := i) (by omega)
    rw [sgR_s, List.take_add_one, hx]
    by_cases hm : i % m = 0
    · rw [sgm_new hm hx]
      simp [ih]
    · rw [sgm_old hm hx]
      cases i with
      | zero => simp at hm
      | succ i =>
        rw [sgR_s] at ih
        rw [← ih]
        simp
theorem sgR_len {m : Nat} {l : List Int} : ∀ {i : Nat}, i ≤ l.length → (sgR m l i).length ≤ i
  | 0, _ => by rw [sgR_0]; simp
  | i + 1, h => by
    have hx := List.getElem?_eq_getElem (show i < l.length by omega)
    have ih := sgR_len (m := m) (l := l) (i := i) (by omega)
    rw [sgR_s]
    by_cases hm : i % m = 0
    · rw [sgm_new hm hx]
      simp; omega
    · rw [sgm_old hm hx]
      cases i with
      | zero => simp at hm
      | succ i =>
        rw [sgR_s] at ih
        simp at ih ⊢; omega
theorem sgm_len {m : Nat} {l : List Int} : ∀ (i : Nat), (sgm m l i).2.length ≤ i
  | 0 => Nat.le_refl _
  | i + 1 => by
    have ih := sgm_len (m := m) (l := l) i
    rw [sgm]
    split
    · simp
    · simp; omega
def pce (m : Nat) (l : List Int) (k : Nat) : List Int := (l.drop (k * m)).take m
theorem sgm_at {m : Nat} (h0 : 0 < m) {l : List Int} : ∀ {i : Nat}, i + 1 ≤ l.length → sgm m l (i + 1) = ((List.range (i / m)).map (pce m l), (l.take (i + 1)).drop (i / m * m))
  | 0, h => by
    have hx := List.getElem?_eq_getElem (show 0 < l.length by omega)
    rw [sgm_new (Nat.zero_mod _) hx, sgR_0, Nat.zero_div]
    simp [List.take_add_one, hx]
  | i + 1, h => by
    have hx := List.getElem?_eq_getElem (show i + 1 < l.length by omega)
    have ih := sgm_at h0 (l := l) (i := i) (by omega)
    have hd := Nat.div_add_mod i m
    have hlt := Nat.mod_lt i h0
    have hd' := Nat.div_add_mod (i + 1) m
    have hlt' := Nat.mod_lt (i + 1) h0
    have e1 : m * (i / m) = i / m * m := Nat.mul_comm _ _
    have e2 : m * ((i + 1) / m) = (i + 1) / m * m := Nat.mul_comm _ _
    by_cases hm : (i + 1) % m = 0
    · have hq : (i + 1) / m = i / m + 1 := by
        rcases Nat.lt_trichotomy ((i + 1) / m) (i / m + 1) with c | c | c
        · have := Nat.mul_le_mul_right m (show (i + 1) / m ≤ i / m by omega); omega
        · exact c
        · have := Nat.mul_le_mul_right m (show i / m + 2 ≤ (i + 1) / m by omega)
          rw [Nat.add_mul] at this; omega
      have e4 : (i + 1) / m * m = (i / m + 1) * m := by rw [hq]
      have e3 : (i / m + 1) * m = i + 1 := by omega
      rw [sgm_new hm hx, sgR_s, ih, hq, List.range_succ, List.map_append]
      refine Prod.ext ?_ ?_
      · show _ ++ [_] = _ ++ List.map _ [_]
        rw [List.map_singleton]
        congr 2
        show List.drop (i / m * m) (l.take (i + 1)) = pce m l (i / m)
        unfold pce
        rw [List.drop_take]
        congr 1
        rw [Nat.add_mul] at e3; omega
      · show [_] = _
        rw [e3, List.take_add_one, hx, List.drop_append_of_le_length (by rw [List.length_take]; omega), List.drop_of_length_le (by rw [List.length_take]; omega)]
        rfl
    · have hq : (i + 1) / m = i / m := by
        rcases Nat.lt_trichotomy ((i + 1) / m) (i / m) with c | c | c
        · have := Nat.mul_le_mul_right m (show (i + 1) / m + 1 ≤ i / m by omega); rw [Nat.add_mul] at this; omega
        · exact c
        · have := Nat.mul_le_mul_right m (show i / m + 1 ≤ (i + 1) / m by omega)
          rw [Nat.add_mul] at this; omega
      rw [sgm_old hm hx, ih, hq]
      refine Prod.ext rfl ?_
      show (l.take (i + 1)).drop (i / m * m) ++ [_] = _
      have e4 : (i + 1) / m * m = i / m * m := by rw [hq]
      rw [List.take_add_one (i := i + 1), hx, List.drop_append_of_le_length (by rw [List.length_take]; omega)]
      rfl
def pcn (m n : Nat) : Nat := if n = 0 then 0 else (n - 1) / m + 1
theorem sgR_pce {m : Nat} (h0 : 0 < m) (l : List Int) : sgR m l l.length = (List.range (pcn m l.length)).map (pce m l) := by
  cases hl : l.length with
  | zero => rfl
  | succ i =>
    have hd := Nat.div_add_mod i m
    have hlt := Nat.mod_lt i h0
    have e1 : m * (i / m) = i / m * m := Nat.mul_comm _ _
    rw [sgR_s, sgm_at h0 (by omega), pcn, if_neg (by omega), Nat.add_sub_cancel, List.range_succ, List.map_append, List.map_singleton]
    congr 2
    unfold pce
    rw [← hl, List.take_length, List.take_of_length_le (by rw [List.length_drop]; omega)]
theorem pcn_lt {m n k : Nat} (h0 : 0 < m) : k < pcn m n ↔ k * m < n := by
  unfold pcn
  split
  · subst_vars; simp
  · have hd := Nat.div_add_mod (n - 1) m
    have hlt := Nat.mod_lt (n - 1) h0
    have e1 : m * ((n - 1) / m) = (n - 1) / m * m := Nat.mul_comm _ _
    constructor
    · intro h
      have := Nat.mul_le_mul_right m (show k ≤ (n - 1) / m by omega)
      omega
    · intro h
      rcases Nat.lt_or_ge k ((n - 1) / m + 1) with c | c
      · exact c
      · have := Nat.mul_le_mul_right m c
        rw [Nat.add_mul] at this; omega
theorem pcn_le {m n : Nat} (h0 : 0 < m) : pcn m n ≤ n := by
  unfold pcn
  split
  · omega
  · have := Nat.div_le_self (n - 1) m; omega
end Go.Proofs.Ytmljglphegeilaa


namespace Go.Proofs.Ytmljglphegeilaa
set_option linter.unusedVariables false
set_option linter.unusedSimpArgs false
set_option linter.unnecessarySimpa false
open Go.RowKit Go.Shelf
attribute [local go_sem] Oper.semAt_some
set_option maxRecDepth 100000
set_option maxHeartbeats 4000000
def pcV (b : Addr) (m len k : Nat) : Value := .slice (some (b.add (k * m))) (min m (len - k * m)) (min m (len - k * m))
theorem chunk1_in (lp Bs Bn : Nat) (b : Addr) (len cap m N : Nat) (hm : 0 < m) (hm2 : m ≤ 9223372036854775807) (hlen : len ≤ 1048576) (hcap : len ≤ cap) (hN : N = pcn m len) (Kp : World → World → Prop) (J Jx : List Nat → World → Prop) (hJa : ∀ s A, J s A → J s A.drew)
    (hK : ∀ A B, Kp A B → (A.cell? ⟨Bs, 0, none⟩ = some (.slice (some b) len cap) → B.cell? ⟨Bs, 0, none⟩ = some (.slice (some b) len cap)) ∧ (A.cell? ⟨Bn, 0, none⟩ = some (.int .i64 m) → B.cell? ⟨Bn, 0, none⟩ = some (.int .i64 m)))
    (hY : ∀ pre x W, J pre W → pre.length < N → YieldAt Fence.wide 9 Try.prog lp #[pcV b m len x] W fun e W' =>
      (e = .returned (.bool true) ∧ J (pre ++ [x]) W' ∧ Kp W W') ∨ (e = .returned (.bool false) ∧ Jx (pre ++ [x]) W'))
    (W : World) (hBs : W.cell? ⟨Bs, 0, none⟩ = some (.slice (some b) len cap)) (hBn : W.cell? ⟨Bn, 0, none⟩ = some (.int .i64 m)) (h0 : J [] W) :
    CallsIn Fence.wide 10 Try.prog 26 #[.func (.yield lp) #[] #[], .pointer (some ⟨Bs, 0, none⟩), .pointer (some ⟨Bn, 0, none⟩)] W fun e W' => (∃ v, e = .returned v) ∧
      ((∃ ys, ys = List.range N ∧ J ys W') ∨ (∃ pre, True ∧ Jx pre W')) := by
  refine callsIn_of_wp Try.func26 rfl trivial ?_ rfl
  simp only [Try.ntmps26, List.size_toArray, List.length_cons, List.length_nil, Nat.reduceAdd, Nat.reduceSub, Array.replicate_succ, Array.replicate_zero, List.push_toArray, List.append_toArray, List.nil_append, List.cons_append]
  gi_wp2
  gi_loopw [4] (fun i wr => ∃ k q : Nat, k ≤ N ∧ k * m = q ∧ i = .int .i64 (q : Int) ∧ J (List.range k) wr ∧ wr.cell? ⟨Bs, 0, none⟩ = some (.slice (some b) len cap) ∧ wr.cell? ⟨Bn, 0, none⟩ = some (.int .i64 m))
    (fun i _ => len - (intOf i).toNat)
  case atStart => exact ⟨0, 0, Nat.zero_le _, by simp, rfl, h0, hBs, hBn⟩
  case round =>
    obtain ⟨k, q, hk, hq, rfl, hJs, hs, hn⟩ := hrel
    have hmix := mixed
    by_cases hlt : k < N
    · obtain ⟨fn, tmps, assign, body, hy, hR⟩ := hY _ k wr.drew (hJa _ _ hJs) (by rw [List.length_range]; exact hlt)
      have hkm : q < len := by rw [← hq]; exact (pcn_lt hm).1 (by rw [← hN]; exact hlt)
      have hs2 : wr.drew.cell? ⟨Bs, 0, none⟩ = some (.slice (some b) len cap) := hs
      have hn2 : wr.drew.cell? ⟨Bn, 0, none⟩ = some (.int .i64 m) := hn
      have hq1 : (k + 1) * m = q + m := by rw [Nat.add_mul, Nat.one_mul, hq]
      have hov : q + m ≤ 9223372036854775807 := by
        rcases Nat.eq_zero_or_pos k with h | h
        · subst h; rw [Nat.zero_mul] at hq; omega
        · have := Nat.mul_le_mul_right m h; omega
      unfold pcV at hy
      rw [hq] at hy
      rcases Nat.lt_or_ge (len - q) m with hc | hc
      · rw [show min m (len - q) = len - q by omega] at hy
        gi_wp2
        gi_region
        gi_wp2
        refine hR.mono ?_
        rintro e W3 (⟨rfl, hJ3, hk3⟩ | ⟨rfl, hJx3⟩)
        · have hs3 := (hK _ _ hk3).1 hs2
          have hn3 := (hK _ _ hk3).2 hn2
          gi_wp2
          go_roundw
          case rel => exact ⟨k + 1, q + m, by omega, hq1, by simp, by rw [List.range_succ]; exact hJ3, hs3, hn3⟩
          case measure => simp [intOf]; omega
        · gi_wp2
          refine bodyPost_ret (results_none rfl _ _ _) rfl ?_
          exact ⟨⟨_, rfl⟩, .inr ⟨_, trivial, hJx3⟩⟩
      · rw [show min m (len - q) = m by omega] at hy
        gi_wp2
        gi_region
        gi_wp2
        refine hR.mono ?_
        rintro e W3 (⟨rfl, hJ3, hk3⟩ | ⟨rfl, hJx3⟩)
        · have hs3 := (hK _ _ hk3).1 hs2
          have hn3 := (hK _ _ hk3).2 hn2
          gi_wp2
          go_roundw
          case rel => exact ⟨k + 1, q + m, by omega, hq1, by simp, by rw [List.range_succ]; exact hJ3, hs3, hn3⟩
          case measure => simp [intOf]; omega
        · gi_wp2
          refine bodyPost_ret (results_none rfl _ _ _) rfl ?_
          exact ⟨⟨_, rfl⟩, .inr ⟨_, trivial, hJx3⟩⟩
    · have hkm : ¬ q < len := fun h => hlt (by rw [hN]; exact (pcn_lt hm).2 (by rw [hq]; exact h))
      have hkN : k = N := by omega
      gi_wp2
      go_end0
      exact ⟨⟨_, rfl⟩, .inl ⟨_, rfl, hkN ▸ hJs⟩⟩
end Go.Proofs.Ytmljglphegeilaa


namespace Go.Proofs.Ytmljglphegeilaa
set_option linter.unusedVariables false
set_option linter.unusedSimpArgs false
set_option linter.unnecessarySimpa false
open Go.RowKit
set_option maxHeartbeats 4000000
section
variable {heap : List Ob} {w : World} {ρ : Rho} {Z Y : Nat → Prop}
theorem HRep.ra (h : HRep heap w ρ Z Y) {i k : Nat} {E : TypeId} {cs : List AV} (hi : heap[i]? = some (.ra k E cs)) :
    (ρ i k).s = 1 ∧ ∃ us, AVs (Val (Kn heap) ρ w Z Y) cs us ∧ (∀ u ∈ us, u.oneCell' = true) ∧ (Res.row (ρ i k).a cs.length (ρ i k).c E 1 us).holds 0 w ∧ Rs w 1 (ρ i k).a cs.length (ρ i k).c us := by
  obtain ⟨h1, us, h2, h3, h4⟩ := h.obs i _ hi
  exact ⟨h1, us, h2, h3, h4, rs_of_holds h4⟩
end
section
variable {P : Program} {ops : Array Oper} {Q : QS} {rest : List Oper} {o : Oper} {n : Fr} {T : Nat → AV} {heap : List Ob} {d : Nat}
theorem A_idx_ra (hw : wantedA n T ops o = true) (hd : o.dst = some d) (t : TypeId) (x ix : Operand) (ho : o.op = .indexAddr t x ix) {e : TypeId} (ht : P.underlying t = some (.slice e)) {z : Option Value} {bytes : Nat} (hI : (P.info? e).map (fun i => (i.zero, i.size, i.bytes)) = some (z, 1, bytes))
    {i k' m : Nat} (hx : evA n T x = .sl i k' m) {E : TypeId} {cs : List AV} (hi : heap[i]? = some (.ra k' E cs)) {kd : IntKind} {I : Int} (hix : evA n T ix = .t (.v (.int kd I))) (h0I : 0 ≤ I) (J : Nat) (hJ : I.toNat = J) (hlt : J < m) (hm : m ≤ cs.length)
    (k : AL P ops Q rest n (pu T d (.rp i k' J 0)) heap) : AL P ops Q (o :: rest) n T heap := by
  obtain rfl : I = (J : Int) := by omega
  refine AL.val hw hd (fun en a w ρ Z Y hR => ?_) k
  have hv := hR.eval x
  rw [hx] at hv
  have hvi := hR.eval ix
  rw [hix] at hvi
  obtain ⟨h1, us, h2, h3, h4, h5⟩ := hR.ok.rep.ra hi
  generalize hai : a.eval ix = vi at hvi
  generalize hax : a.eval x = vx at hv
  cases hv with
  | sl hk hcc _ =>
  cases hvi with
  | t h => cases h with
    | v h =>
    refine ⟨_, val_of (s := Instr.indexAt t (a.eval x) (a.eval ix)) (by unfold execOp; rw [ho]) (by rw [hax, hai]; exact run_idx ht hI _ m _ kd J (fun e => by have := (h5.none e).1; omega) hlt), ?_⟩
    have := Val.rp (ρ := ρ) (w := w) (Z := Z) (Y := Y) (idx := J) (off := 0) hk
    rw [h1, Nat.add_zero] at this
    exact this
theorem A_load_ra (hw : wantedA n T ops o = true) (hd : o.dst = some d) (t : TypeId) (x : Operand) (ho : o.op = .load t x) {ds : TypeDesc} (hu : P.underlying t = some ds) (hds : (match ds with | .struct _ | .array _ _ => true | _ => false) = false)
    {i k' idx : Nat} (hx : evA n T x = .rp i k' idx 0) {E : TypeId} {cs : List AV} (hi : heap[i]? = some (.ra k' E cs)) {u : AV} (hc : cs[idx]? = some u) (k : AL P ops Q rest n (pu T d u) heap) : AL P ops Q (o :: rest) n T heap := by
  refine AL.val hw hd (fun e a w ρ Z Y hR => ?_) k
  have hv := hR.eval x
  rw [hx] at hv
  obtain ⟨h1, us, h2, h3, h4, h5⟩ := hR.ok.rep.ra hi
  have hlt := get_lt hc
  rw [h2.len] at hlt
  have hq := List.getElem?_eq_getElem hlt
  generalize hav : a.eval x = v at hv
  cases hv with
  | rp hk =>
  refine ⟨us[idx], val_of (s := Instr.loadAt t (a.eval x)) (by unfold execOp; rw [ho]) ?_, h2.at_ idx u _ hc hq⟩
  rw [hav]
  refine run_load_one hu hds ?_
  rw [h1, Nat.mul_one, Nat.add_zero]
  exact h5.cells idx _ hq
theorem A_store_ra (hw : wantedA n T ops o = true) (hd : o.dst = none) (t : TypeId) (x y : Operand) (ho : o.op = .store t x y) {z : Option Value} {bytes : Nat} (hI : (P.info? t).map (fun i => (i.zero, i.size, i.bytes)) = some (z, 1, bytes))
    {i k' idx : Nat} (hx : evA n T x = .rp i k' idx 0) {E : TypeId} {cs : List AV} (hi : heap[i]? = some (.ra k' E cs)) (hlt : idx < cs.length) {u : AV} (hy : (evA n T y).flat = some [u])
    {cs' : List AV} (hc : cs.set idx u = cs') {heap' : List Ob} (hh : heap.set i (.ra k' E cs') = heap') (k : AL P ops Q rest n T heap') : AL P ops Q (o :: rest) n T heap := by
  subst hc hh
  refine AL.unit hw hd (fun e a w ρ Z Y hR => ?_) k
  have hv := hR.eval x
  rw [hx] at hv
  obtain ⟨h1, us, h2, h3, h4, h5⟩ := hR.ok.rep.ra hi
  obtain ⟨us', g1, g2, g3⟩ := (hR.eval y).flat hy
  have hl1 : us'.length = 1 := by rw [← g2.len]; rfl
  obtain ⟨v0, rfl⟩ := List.length_eq_one_iff.1 hl1
  have hs : (sizeOf t).run P w = .ok 1 w := run_size hI
  have hlu : idx < us.length := by rw [← h2.len]; exact hlt
  generalize hax : a.eval x = vx at hv
  cases hv with
  | rp hk =>
  obtain ⟨w', r1, r2, r3⟩ := run_put_any hs g1 rfl g3 (m := idx) h4 (by simp only [List.length_singleton]; omega) (fun e => by cases e)
  have he : us.take idx ++ [v0] ++ us.drop (idx + [v0].length) = us.set idx v0 := by
    rw [List.set_eq_take_append_cons_drop, if_pos hlu, List.length_singleton, List.append_assoc, List.singleton_append]
  rw [he] at r2
  have hblk : (Ob.ra k' E cs).blk ρ i = (if (ρ i k').c = 0 then none else (ρ i k').a.map (·.block)) := rfl
  have hsame : ∀ b', b' < w.heap.size → (Ob.ra k' E cs).blk ρ i ≠ some b' → w'.heap[b']? = w.heap[b']? := fun b' hb' hne => r3.block b' hb' (fun e => hne (by rw [hblk, e]))
  have hval : ∀ x v, Val (Kn heap) ρ w Z Y x v → Val (Kn (heap.set i (.ra k' E (cs.set idx u)))) ρ w' Z Y x v := fun x v hv =>
    hR.ok.rep.val (fun j k hj => ⟨hj.set hi (by exact Nat.le_refl _), rfl⟩) (fun _ h => h) (fun b' hb' => ⟨hb', hsame b' (hR.ok.rep.ylt b' hb') (hR.ok.rep.notin hi hb')⟩) hv
  refine ⟨w', ρ, Z, Y, ?_, hR.ok.turn hi (Nat.le_refl _) (fun _ _ _ => rfl) ⟨r3.os, r3.tape, r3.output⟩ r3.size hsame ⟨h1, us.set idx v0, ⟨by rw [List.length_set, List.length_set]; exact h2.len, fun j x v hj hv => ?_⟩, fun v hv => ?_, by rw [List.length_set]; exact r2⟩ (fun b' hb' => .inl hb'), hval⟩
  · unfold execOp
    simp only [ho, hax, h1, Nat.mul_one, Nat.add_zero, Sem.run_bind, r1, Result.andThen_ok, Sem.run_pure]
  · rw [List.getElem?_set] at hj hv
    by_cases e : idx = j
    · subst e
      rw [if_pos rfl, if_pos hlt] at hj
      rw [if_pos rfl, if_pos hlu] at hv
      cases hj; cases hv
      exact hval _ _ (g2.at_ 0 _ _ rfl rfl)
    · rw [if_neg e] at hj hv
      exact hval _ _ (h2.at_ j x v hj hv)
  · rcases List.mem_or_eq_of_mem_set hv with hv | rfl
    · exact h3 v hv
    · exact g3 _ (List.mem_singleton.2 rfl)
theorem A_append_ra (hw : wantedA n T ops o = true) (hd : o.dst = some d) (s x : Operand) (t : TypeId) (ho : o.op = .call { callee := .builtin .append, args := #[s, x], argTypes := #[t, t] })
    {e : TypeId} (ht : P.underlying t = some (.slice e)) {z : Value} {bytes : Nat} (hI : (P.info? e).map (fun i => (i.zero, i.size, i.bytes)) = some (some z, 1, bytes)) (hzs : z.cells.size = 1)
    {i k' m : Nat} (hs : evA n T s = .sl i k' m) {cs : List AV} (hi : heap[i]? = some (.ra k' e cs)) (hm : cs.length = m) (hx : Rd heap 1 (evA n T x) [[.v (.slice none 0 0)]]) (b1 : m + 1 ≤ maxLen) (b2 : (m + 1) * bytes ≤ 140737488355328)
    {heap' : List Ob} (hh : heap.set i (.ra (k' + 1) e (cs ++ [.nl])) = heap') (k : AL P ops Q rest n (pu T d (.sl i (k' + 1) (m + 1))) heap') : AL P ops Q (o :: rest) n T heap := by
  subst hh hm
  refine AL.act hw hd (fun en a w ρ Z Y hR => ?_) k
  obtain ⟨inf, hin, hz, hsz, hby⟩ := info_of hI
  subst hby
  have hrep := hR.ok.rep
  obtain ⟨h1, us, h2, h3, h4, h5⟩ := hrep.ra hi
  obtain ⟨xa, xc, ys, g1, g2, g3⟩ := hx.open hrep (hR.eval x)
  have hys : ys = [.slice none 0 0] := by
    have hl := g3.len
    obtain ⟨y, rfl⟩ := List.length_eq_one_iff.1 (show ys.length = 1 from hl)
    have := g3.at_ 0 [.v (.slice none 0 0)] 0 _ y rfl rfl rfl
    cases this
    rfl
  subst hys
  have hv := hR.eval s
  rw [hs] at hv
  generalize hax : a.eval s = vx at hv
  cases hv with
  | sl hk hcc _ =>
  rw [← hsz] at h4 h5 g2
  obtain ⟨a', c', w', r1, r2, r3, r4⟩ := run_append_any (P := P) t o.type ht hin hz (hzs.trans hsz.symm) h4 h5 xa 1 xc g2 (fun u hu => by rw [List.mem_singleton.1 hu]; rfl) b1 b2
  rw [hsz] at r2 r4
  let ρ' : Rho := fun j q => if j = i ∧ q = k' + 1 then ⟨a', c', 1⟩ else ρ j q
  have hnew : ρ' i (k' + 1) = ⟨a', c', 1⟩ := if_pos ⟨rfl, rfl⟩
  have hρ : ∀ j q, Kn heap j q → ρ' j q = ρ j q := fun j q ⟨p, hp, hq⟩ => if_neg fun ⟨e1, e2⟩ => by
    subst e1; rw [hi] at hp; cases hp; simp [Ob.lim] at hq; omega
  have hsame : ∀ b', b' < w.heap.size → (Ob.ra k' e cs).blk ρ i ≠ some b' → w'.heap[b']? = w.heap[b']? := fun b' hb' hne => r3.block b' hb' (fun e => hne e.symm)
  have hm : ∀ x v, Val (Kn heap) ρ w Z Y x v → Val (Kn (heap.set i (.ra (k' + 1) e (cs ++ [.nl])))) ρ' w' Z Y x v := fun x v hv =>
    hrep.val (fun j q hj => ⟨hj.set hi (by exact Nat.le_succ _), hρ j q hj⟩) (fun _ h => h) (fun b' hb' => ⟨hb', hsame b' (hrep.ylt b' hb') (hrep.notin hi hb')⟩) hv
  have hlen : (cs ++ [AV.nl]).length = cs.length + 1 := by rw [List.length_append, List.length_singleton]
  have hres : (Res.row (ρ' i (k' + 1)).a (cs ++ [AV.nl]).length (ρ' i (k' + 1)).c e 1 (us ++ [.slice none 0 0])).holds 0 w' := by rw [hnew, hlen]; exact r2
  have hcap := (rs_of_holds hres).cap
  rw [hlen] at hcap
  refine ⟨.slice a' (cs.length + 1) c', w', ρ', Z, Y, ?_, hR.ok.turn hi (by exact Nat.le_succ _) hρ ⟨r3.os, r3.tape, r3.output⟩ r3.size hsame ⟨by rw [hnew], _, ⟨by rw [hlen, List.length_append, h2.len]; rfl, fun j x v hj hv => ?_⟩, fun v hv => ?_, hres⟩ (fun b hb => ?_), hm, ?_⟩
  · unfold execOp
    simp only [ho, resolve, invoke, builtin, Sem.run_bind, Sem.run_pure, Result.andThen_ok, List.map_toArray, List.map_cons, List.map_nil, hax, g1, List.length_cons, List.length_nil, Nat.zero_add, r1]
  · by_cases hlt : j < cs.length
    · rw [List.getElem?_append_left hlt] at hj
      rw [List.getElem?_append_left (by rw [← h2.len]; exact hlt)] at hv
      exact hm _ _ (h2.at_ j x v hj hv)
    · rw [List.getElem?_append_right (by omega)] at hj
      rw [List.getElem?_append_right (by rw [← h2.len]; omega), ← h2.len] at hv
      have := get_lt hj
      have e0 : j - cs.length = 0 := by simp at this; omega
      rw [e0] at hj hv
      cases hj; cases hv
      exact .nl _
  · rcases List.mem_append.1 hv with hv | hv
    · exact h3 v hv
    · rw [List.mem_singleton.1 hv]; rfl
  · refine r4 b ?_
    simp only [Ob.blk, hnew] at hb
    exact hb
  · have := Val.sl (Kn := Kn (heap.set i (.ra (k' + 1) e (cs ++ [.nl])))) (ρ := ρ') (w := w') (Z := Z) (Y := Y) (i := i) (k := k' + 1) (n := cs.length + 1) ⟨_, by rw [List.getElem?_set, if_pos rfl, if_pos (get_lt hi)], Nat.le_refl _⟩ hcap (fun e => ((rs_of_holds hres).none e).2)
    rw [hnew] at this
    exact this
theorem A_litN (hw : wantedA n T ops o = true) (hd : o.dst = some d) (t : TypeId) (ho : o.op = .buildSlice t 1 #[(0, .const (.slice none 0 0))]) {e : TypeId} (ht : P.underlying t = some (.slice e)) {z : Value} {bytes : Nat} (hI : (P.info? e).map (fun i => (i.zero, i.size, i.bytes)) = some (some z, 1, bytes))
    {heap' : List Ob} {N : Nat} (hat : AtL heap N [.row 0 e 1 [[.v (.slice none 0 0)]]] heap') (k : AL P ops Q rest n (pu T d (.sl N 0 1)) heap') : AL P ops Q (o :: rest) n T heap := by
  refine AL.act hw hd (fun en a w ρ Z Y hR => ?_) k
  have hrep := hR.ok.rep
  obtain ⟨inf, hin, hz, hs, hb⟩ := info_of hI
  have hrow : (w.alloc (.cells #[.slice none 0 0] e)).ownsRow 0 e 1 (.slice (some ⟨w.heap.size, 0, none⟩) 1 1) 1 [.slice none 0 0] := by
    have := World.ownsRow_lit (base := 0) (e := e) (size := 1) w #[.slice none 0 0] 1 (Nat.zero_le _) (by simp only [maxLen]; omega) rfl
    simpa using this
  have hfill := fill_lit (size := 1) [(0, Value.slice none 0 0)] [[.slice none 0 0]] 0 ((Array.range 1).map (z.cells[· % z.cells.size]!)).toList rfl (fun j i v vs h1 h2 => by
    have := get_lt h1
    obtain rfl : j = 0 := by simp at this; omega
    cases h1; cases h2
    exact ⟨rfl, rfl, rfl⟩) (by simp)
  obtain ⟨ρ', k1, k2, k3, k4⟩ := hR.ok.push1 (o := .row 0 e 1 [[.v (.slice none 0 0)]]) hat (w' := w.alloc (.cells #[.slice none 0 0] e)) (pl := ⟨some ⟨w.heap.size, 0, none⟩, 1, 1⟩) ⟨rfl, rfl, rfl⟩ (by simp) (fun b hb => Below.heap_alloc w _ b hb)
    (fun ρ' hN hρ => ⟨by rw [hN], [.slice none 0 0], ⟨rfl, fun cs h => by rw [List.mem_singleton.1 h]; rfl, fun i cs j x u h1 h2 h3 => by
      have := get_lt h1
      obtain rfl : i = 0 := by simp at this; omega
      cases h1
      have := get_lt h2
      obtain rfl : j = 0 := by simp at this; omega
      cases h2; cases h3
      exact .v rfl⟩, by rw [hN]; exact .inr ⟨by show 0 < 1; omega, hrow⟩⟩)
    (fun b hb _ => by simp at hb; subst hb; simp)
  refine ⟨.slice (some ⟨w.heap.size, 0, none⟩) 1 1, _, ρ', Z, Y, ?_, k1, k2, ?_⟩
  · refine val_of (s := Instr.buildSlice t 1 (#[(0, Operand.const (.slice none 0 0))].map (fun (i, x) => (i, a.eval x)))) (by unfold execOp; rw [ho]) ?_
    have e5 : (#[(0, Operand.const (.slice none 0 0))].map (fun (i, x) => (i, a.eval x))).toList = [(0, Value.slice none 0 0)] := by simp [Act.eval]
    have e1 : (sizeOf e).run P w = .ok 1 w := by simp [sizeOf, typeInfo, hin, hs]
    have e2 : (zeroValue e).run P w = .ok z w := by simp [zeroValue, typeInfo, hin, hz]
    simp only [Nat.zero_mul, List.take_zero, List.nil_append, Array.toArray_toList, List.flatten_cons, List.flatten_nil, List.append_nil, Nat.mul_one] at hfill
    simp only [Instr.buildSlice, Sem.run_bind, run_underlying ht, Result.andThen_ok, e1, Nat.mul_one, if_neg (show ¬ (1 > 2 ^ 24) by omega), if_neg (show ¬ (1 = 0) by omega), e2, Sem.run_pure, e5, hfill]
    simp [newRow, Result.andThen]
  · have := Val.sl (Kn := Kn heap') (ρ := ρ') (w := w.alloc (.cells #[.slice none 0 0] e)) (Z := Z) (Y := Y) (i := N) (k := 0) (n := 1) ⟨_, hat.one, Nat.le_refl _⟩ (by rw [k3]; exact Nat.le_refl _) (by rw [k3]; intro e; cases e)
    rw [k3] at this
    exact this
end
section
variable {n : Fr} {T : Nat → AV} {heap : List Ob}
theorem Wk.toRa (i : Nat) {k : Nat} {E : TypeId} (hi : heap[i]? = some (.row k E 1 [])) {heap' : List Ob} (hh : heap.set i (.ra k E []) = heap') : Wk n T heap T heap' := by
  subst hh
  rintro en a w ⟨ρ, Z, Y, hR⟩
  obtain ⟨h1, xs, h2, h3, h4⟩ := hR.ok.rep.row hi
  obtain rfl : xs = [] := List.eq_nil_of_length_eq_zero (by rw [h2.len]; rfl)
  have hm : ∀ x v, Val (Kn heap) ρ w Z Y x v → Val (Kn (heap.set i (.ra k E []))) ρ w Z Y x v := fun x v hv =>
    hv.mono (fun j k hj => ⟨hj.set hi (by exact Nat.le_refl _), rfl⟩) (fun b hb => ⟨hb, rfl⟩) (fun b hb => ⟨hb, rfl⟩)
  exact ⟨ρ, Z, Y, hR.ok.turn hi (Nat.le_refl _) (fun _ _ _ => rfl) ⟨rfl, rfl, rfl⟩ (Nat.le_refl _) (fun _ _ _ => rfl) ⟨h1, [], ⟨rfl, fun j x u h => by simp at h⟩, (fun u hu => by cases hu), h3⟩ (fun b hb => .inl hb), hR.defers, hR.n, hR.hl, fun t v ht => hm _ _ (hR.at_ t v ht)⟩
theorem Wk.toRow (i : Nat) {k : Nat} {E : TypeId} (ts : List Tr) (hi : heap[i]? = some (.ra k E (ts.map .t))) {heap' : List Ob} (hh : heap.set i (.row k E 1 (ts.map fun x => [x])) = heap') : Wk n T heap T heap' := by
  subst hh
  rintro en a w ⟨ρ, Z, Y, hR⟩
  obtain ⟨h1, us, h2, h3, h4, h5⟩ := hR.ok.rep.ra hi
  have hl : us.length = ts.length := by rw [← h2.len, List.length_map]
  have hm : ∀ x v, Val (Kn heap) ρ w Z Y x v → Val (Kn (heap.set i (.row k E 1 (ts.map fun x => [x])))) ρ w Z Y x v := fun x v hv =>
    hv.mono (fun j k hj => ⟨hj.set hi (by exact Nat.le_refl _), rfl⟩) (fun b hb => ⟨hb, rfl⟩) (fun b hb => ⟨hb, rfl⟩)
  refine ⟨ρ, Z, Y, hR.ok.turn hi (Nat.le_refl _) (fun _ _ _ => rfl) ⟨rfl, rfl, rfl⟩ (Nat.le_refl _) (fun _ _ _ => rfl) ⟨h1, us, ⟨by rw [List.length_map, Nat.mul_one]; exact hl, fun cs h => ?_, fun i cs j x u h1 h2' h3' => ?_⟩, by rw [List.length_map]; rw [List.length_map] at h4; exact h4⟩ (fun b hb => .inl hb), hR.defers, hR.n, hR.hl, fun t v ht => hm _ _ (hR.at_ t v ht)⟩
  · obtain ⟨x, _, rfl⟩ := List.mem_map.1 h
    rfl
  · rw [List.getElem?_map] at h1
    cases hx : ts[i]? with
    | none => rw [hx] at h1; cases h1
    | some y =>
      rw [hx] at h1; cases h1
      have := get_lt h2'
      obtain rfl : j = 0 := by simp at this; omega
      cases h2'
      rw [Nat.mul_one, Nat.add_zero] at h3'
      have := h2.at_ i (.t x) u (by rw [List.getElem?_map, hx]; rfl) h3'
      cases this with
      | t h => exact h
theorem Wk.freezeRa (i : Nat) {k : Nat} {E : TypeId} {s : Nat} {els : List (List Tr)} (hi : heap[i]? = some (.row k E s els)) (j : Nat) {k2 : Nat} {t : TypeId} {cs cs' : List AV} (hj : heap[j]? = some (.ra k2 t cs)) (hr : FzL i k els cs cs') {heap' : List Ob} (hh : (heap.set i (.gone k)).set j (.ra k2 t cs') = heap') : Wk n T heap T heap' := by
  subst hh
  rintro e a w ⟨ρ, Z, Y, hR⟩
  obtain ⟨Z', Y', k1, k2', k3⟩ := hR.ok.frz hi
  have hij : i ≠ j := fun e => by subst e; rw [hi] at hj; cases hj
  have hj1 : (heap.set i (.gone k))[j]? = some (.ra k2 t cs) := by rw [List.getElem?_set, if_neg hij]; exact hj
  obtain ⟨q0, us, q1, q2, q3, q4⟩ := hR.ok.rep.ra hj
  obtain ⟨r1, r2⟩ := hr.get
  have hm2 : ∀ x v, Val (Kn (heap.set i (.gone k))) ρ w Z' Y' x v → Val (Kn ((heap.set i (.gone k)).set j (.ra k2 t cs'))) ρ w Z' Y' x v := fun x v hv =>
    hv.mono (fun j' q hj' => ⟨hj'.set hj1 (by exact Nat.le_refl _), rfl⟩) (fun b hb => ⟨hb, rfl⟩) (fun b hb => ⟨hb, rfl⟩)
  refine ⟨ρ, Z', Y', k1.turn hj1 (Nat.le_refl _) (fun _ _ _ => rfl) ⟨rfl, rfl, rfl⟩ (Nat.le_refl _) (fun _ _ _ => rfl) ⟨q0, us, ⟨by rw [← r1]; exact q1.len, fun q x u hq hu => ?_⟩, q2, by rw [← r1]; exact q3⟩ (fun b' hb' => .inl hb'), hR.defers, hR.n, hR.hl, fun t v ht => hm2 _ _ (k2' _ _ (hR.at_ t v ht))⟩
  have hlt := get_lt hq
  rw [← r1] at hlt
  exact hm2 _ _ (k3 _ _ (r2 q _ x (List.getElem?_eq_getElem hlt) hq) u (q1.at_ q _ u (List.getElem?_eq_getElem hlt) hu))
theorem FzL.refl {i k : Nat} {els : List (List Tr)} : ∀ (l : List AV), FzL i k els l l
  | [] => .nil
  | x :: l => .cons (.same x) (FzL.refl l)
theorem FzL.app {i k : Nat} {els : List (List Tr)} {l l' : List AV} : ∀ (m : List AV), FzL i k els l l' → FzL i k els (m ++ l) (m ++ l')
  | [], h => h
  | x :: m, h => .cons (.same x) (FzL.app m h)
end
end Go.Proofs.Ytmljglphegeilaa


namespace Go.Proofs.Ytmljglphegeilaa
set_option linter.unusedVariables false
set_option linter.unusedSimpArgs false
set_option linter.unnecessarySimpa false
open Go.RowKit
section
variable {P : Program} {n : Fr} {T : Nat → AV} {heap : List Ob}
end
end Go.Proofs.Ytmljglphegeilaa


namespace Go.Proofs.Ytmljglphegeilaa
set_option linter.unusedVariables false
set_option linter.unusedSimpArgs false
set_option linter.unnecessarySimpa false
open Go.RowKit
set_option maxRecDepth 100000
section
variable {P : Program} {ops : Array Oper} {Q : QS} {rest : List Oper} {o : Oper} {n : Fr} {T : Nat → AV} {heap : List Ob} {d : Nat}
end
end Go.Proofs.Ytmljglphegeilaa


namespace Go.Proofs.Ytmljglphegeilaa
set_option linter.unusedVariables false
set_option linter.unusedSimpArgs false
set_option linter.unnecessarySimpa false
open Go.RowKit
set_option maxHeartbeats 32000000
attribute [local irreducible] AL AW RG Fin C Cd Cio thenQ blockQ retQ
set_option maxRecDepth 100000
set_option maxHeartbeats 16000000
section
variable {ops : Array Oper} {Q : QS} {rest : List Oper} {o : Oper} {n : Fr} {T : Nat → AV} {heap : List Ob} {d : Nat}
theorem sgI (hw : wantedA n T ops o = true) (hd : o.dst = some d) {x ix : Operand} (ho : o.op = .indexAddr 26 x ix) {i k' m : Nat} (hx : evA n T x = .sl i k' m) {cs : List AV} {c : AV} (hi : heap[i]? = some (.ra k' 22 (cs ++ [c]))) {I : Int} (hix : evA n T ix = i64 I) (hI : I = cs.length) (hm : m = cs.length + 1)
    (k : AL Try.prog ops Q rest n (pu T d (.rp i k' cs.length 0)) heap) : AL Try.prog ops Q (o :: rest) n T heap :=
  A_idx_ra hw hd _ x ix ho Try.underlying26 inf22 hx hi hix (by omega) cs.length (by omega) (by omega) (by simp; omega) k
theorem sgL (hw : wantedA n T ops o = true) (hd : o.dst = some d) {x : Operand} (ho : o.op = .load 22 x) {i k' J : Nat} (hx : evA n T x = .rp i k' J 0) {cs : List AV} {c : AV} (hi : heap[i]? = some (.ra k' 22 (cs ++ [c]))) (hJ : J = cs.length)
    (k : AL Try.prog ops Q rest n (pu T d c) heap) : AL Try.prog ops Q (o :: rest) n T heap := by
  subst hJ
  exact A_load_ra hw hd _ x ho Try.underlying22 rfl hx hi (by simp) k
theorem sgS (hw : wantedA n T ops o = true) (hd : o.dst = none) {x y : Operand} (ho : o.op = .store 22 x y) {i k' J : Nat} (hx : evA n T x = .rp i k' J 0) {cs : List AV} {c : AV} (hi : heap[i]? = some (.ra k' 22 (cs ++ [c]))) (hJ : J = cs.length) {u : AV} (hy : (evA n T y).flat = some [u])
    {heap' : List Ob} (hh : heap.set i (.ra k' 22 (cs ++ [u])) = heap') (k : AL Try.prog ops Q rest n T heap') : AL Try.prog ops Q (o :: rest) n T heap := by
  subst hJ
  exact A_store_ra hw hd _ x y ho inf22 hx hi (by simp) hy (by simp) hh k
theorem sgN (hw : wantedA n T ops o = true) (hd : o.dst = some d) (ho : o.op = .buildSlice 26 1 #[(0, .const (.slice none 0 0))]) {heap' : List Ob} {N : Nat} (hat : AtL heap N [.row 0 22 1 [[.v (.slice none 0 0)]]] heap')
    (k : AL Try.prog ops Q rest n (pu T d (.sl N 0 1)) heap') : AL Try.prog ops Q (o :: rest) n T heap :=
  A_litN hw hd _ ho Try.underlying26 inf22 hat k
theorem sgA (hw : wantedA n T ops o = true) (hd : o.dst = some d) {s x : Operand} (ho : o.op = .call { callee := .builtin .append, args := #[s, x], argTypes := #[26, 26] }) {i k' m : Nat} (hs : evA n T s = .sl i k' m) {cs : List AV} (hi : heap[i]? = some (.ra k' 22 cs)) (hm : m = cs.length)
    {j : Nat} (hx : evA n T x = .sl j 0 1) (hj : heap[j]? = some (.row 0 22 1 [[.v (.slice none 0 0)]])) (b : m ≤ 1048576) {heap' : List Ob} (hh : heap.set i (.ra (k' + 1) 22 (cs ++ [.nl])) = heap')
    (k : AL Try.prog ops Q rest n (pu T d (.sl i (k' + 1) (m + 1))) heap') : AL Try.prog ops Q (o :: rest) n T heap :=
  A_append_ra hw hd s x _ ho Try.underlying26 inf22 rfl hs hi hm.symm (by rw [hx]; exact .all hj rfl) (by simp only [maxLen]; omega) (by omega) hh k
end
def sgF (c : List Int) : AV := .t (.lst (c.map tI))
theorem sgUp (g : Nat → Option Nat) (C : List (List Int)) (c : AV) : (C.map sgF ++ [c]).map (upB g) = C.map sgF ++ [upB g c] := by
  rw [List.map_append, List.map_map]; rfl
def sgO (m : Nat) (l : List Int) : Nat → Nat → Nat → List Ob
  | 0, k, _ => [.ra k 22 []]
  | i + 1, k, v => [.ra k 22 ((sgm m l (i + 1)).1.map sgF ++ [.sl 1 v (sgm m l (i + 1)).2.length]), .row v 3 1 ((sgm m l (i + 1)).2.map tI)]
structure SgS where
  i : Nat
  k : Nat
  v : Nat
def tSg (c : List Int) : List Tr := [.lst (c.map tI)]
theorem sgO_row (m : Nat) (l : List Int) (i k v : Nat) {n : Fr} {T : Nat → AV} : ∃ rest, (rest = [] ∨ rest = [Ob.gone v]) ∧ Wk n T (sgO m l i k v) T (.row k 22 1 ((sgR m l i).map tSg) :: rest) := by
  cases i with
  | zero => exact ⟨[], .inl rfl, Wk.toRow 0 [] rfl rfl⟩
  | succ i =>
    refine ⟨[.gone v], .inr rfl, ?_⟩
    dsimp only [sgO]
    rw [sgR_s]
    generalize (sgm m l (i + 1)).1 = fz
    generalize (sgm m l (i + 1)).2 = last
    refine Wk.trans (Wk.freezeRa 1 rfl 0 rfl (FzL.app _ (.cons (.all (List.length_map _)) .nil)) rfl) ?_
    have e : fz.map sgF ++ [AV.t (.lst (last.map tI))] = ((fz ++ [last]).map fun c => Tr.lst (c.map tI)).map .t := by
      rw [List.map_append, List.map_append, List.map_map]; rfl
    have e2 : (fz ++ [last]).map tSg = ((fz ++ [last]).map fun c => Tr.lst (c.map tI)).map fun x => [x] := by rw [List.map_map]; rfl
    rw [e, e2]
    exact Wk.toRow 0 _ rfl rfl
theorem refSegs_c (l : List Int) (size : Int) (m : Nat) (hm : max 1 size = (m : Int)) (hl : l.length ≤ 1048576) :
    Cd Try.prog 6 [.ln (l.map tI), i64 size] (.sl 0 0 (sgR m l l.length).length) [.row 0 22 1 ((sgR m l l.length).map tSg)] := by
  have h1 : (l.map tI).length = l.length := List.length_map _
  refine Cd.enter' Try.func6 rfl Try.ntmps6 rfl ?_
  repeat' (first | ((with_reducible refine kAL ?_); (first | (refine kL 12 rfl ?_; first | refine A_append_nlsub rfl rfl _ _ 26 rfl ud26 inf22 rfl rfl rfl rfl (by (try simp only [List.length_map, List.length_append, List.length_cons, List.length_nil]); omega) qB qB List.map_drop.symm (.push qL qN) ?_ | refine A_append_nlsub rfl rfl _ _ 22 rfl ud22 inf3 rfl rfl rfl rfl (by (try simp only [List.length_map, List.length_append, List.length_cons, List.length_nil]); omega) qB qB List.map_drop.symm (.push qL qN) ?_) | (refine kL 847 rfl ?_; first | refine A_lit rfl rfl 26 1 _ rfl ud26 inf22 (.cons rfl .nil) (els := [[_]]) rfl (by first | exact qN) rfl (Nat.ne_of_beq_eq_false rfl) (Nat.le_of_ble_eq_true rfl) (Nat.le_of_ble_eq_true rfl) (.push qL qN) ?_) | (refine kL 719 rfl ?_; first | refine A_lit rfl rfl 22 1 _ rfl ud22 inf3 (.cons rfl .nil) (els := [[_]]) rfl (by first | exact qN) rfl (Nat.ne_of_beq_eq_false rfl) (Nat.le_of_ble_eq_true rfl) (Nat.le_of_ble_eq_true rfl) (.push qL qN) ?_) | refine uA ?_)) | refine uC ?_ | refine kcp rfl (fun hc => ?_) (fun hc => ?_) | refine kcn rfl (fun hc => ?_) (fun hc => ?_) | refine kcb rfl (fun hc => ?_) (fun hc => ?_) | refine kcc rfl (fun hc => ?_) (fun hc => ?_) | fail)
  refine AW.wk (Wk.own 5 rfl 22 1 (.push rfl rfl)) ?_
  refine AW.wk (Wk.toRa 0 rfl rfl) ?_
  refine AW.loopP (fun (x : SgS) => x.i ≤ l.length) (fun (x : SgS) => (pu (pu (pu (pu (pu (fun _ => .any) 1 (i64 size)) 5 (.sl 0 x.k (sgR m l x.i).length)) 9 (.ln (l.map tI))) 10 (i64 (l.map tI).length)) 11 (i64 x.i))) (fun (x : SgS) => sgO m l x.i x.k x.v) (fun (x : SgS) => l.length - x.i) (⟨0, 0, 0⟩) ?_ ?_ ?_
  · exact Nat.zero_le _
  · exact Wk.cq 1
  · rintro ⟨i, k, v⟩ hi
    dsimp only at hi ⊢
    have hR := sgR_len (m := m) hi
    by_cases hlt : i < l.length
    · obtain ⟨x, hx⟩ : ∃ x, l[i]? = some x := ⟨_, List.getElem?_eq_getElem hlt⟩
      have hr : (i : Int) % max 1 size = ((i % m : Nat) : Int) := by rw [hm]; rfl
      have hm0 : max 1 size ≠ 0 := by omega
      by_cases hd : i % m = 0
      · have e := sgm_new hd hx
        cases i with
        | zero =>
          dsimp only [sgO]
          rw [sgR_0, List.length_nil]
          repeat' (first | ((with_reducible refine kAL ?_); (first | refine sgI (cs := []) rfl rfl rfl rfl rfl rfl (by first | rfl | omega | ((try simp only [List.length_map, List.length_append, List.length_singleton, List.length_nil]); first | done | omega)) (by first | rfl | omega | ((try simp only [List.length_map, List.length_append, List.length_singleton, List.length_nil]); first | done | omega)) ?_ | refine sgL (cs := []) rfl rfl rfl rfl rfl (by first | rfl | omega | ((try simp only [List.length_map, List.length_append, List.length_singleton, List.length_nil]); first | done | omega)) ?_ | refine sgS (cs := []) rfl rfl rfl rfl rfl (by first | rfl | omega | ((try simp only [List.length_map, List.length_append, List.length_singleton, List.length_nil]); first | done | omega)) rfl rfl ?_ | refine sgN rfl rfl rfl (.push rfl rfl) ?_ | refine sgA rfl rfl rfl rfl rfl (by first | rfl | omega | ((try simp only [List.length_map, List.length_append, List.length_singleton, List.length_nil]); first | done | omega)) rfl rfl (by first | rfl | omega | ((try simp only [List.length_map, List.length_append, List.length_singleton, List.length_nil]); first | done | omega)) rfl ?_ | (refine kL 12 rfl ?_; first | refine A_append_nlsub rfl rfl _ _ 26 rfl ud26 inf22 rfl rfl rfl rfl (by (try simp only [List.length_map, List.length_append, List.length_cons, List.length_nil]); omega) qB qB List.map_drop.symm (.push qL qN) ?_ | refine A_append_nlsub rfl rfl _ _ 22 rfl ud22 inf3 rfl rfl rfl rfl (by (try simp only [List.length_map, List.length_append, List.length_cons, List.length_nil]); omega) qB qB List.map_drop.symm (.push qL qN) ?_) | (refine kL 847 rfl ?_; first | refine A_lit rfl rfl 26 1 _ rfl ud26 inf22 (.cons rfl .nil) (els := [[_]]) rfl (by first | exact qN) rfl (Nat.ne_of_beq_eq_false rfl) (Nat.le_of_ble_eq_true rfl) (Nat.le_of_ble_eq_true rfl) (.push qL qN) ?_) | (refine kL 719 rfl ?_; first | refine A_lit rfl rfl 22 1 _ rfl ud22 inf3 (.cons rfl .nil) (els := [[_]]) rfl (by first | exact qN) rfl (Nat.ne_of_beq_eq_false rfl) (Nat.le_of_ble_eq_true rfl) (Nat.le_of_ble_eq_true rfl) (.push qL qN) ?_) | refine uA ?_)) | refine uC ?_ | refine kcp rfl (fun hc => ?_) (fun hc => ?_) | refine kcn rfl (fun hc => ?_) (fun hc => ?_) | refine kcb rfl (fun hc => ?_) (fun hc => ?_) | refine kcc rfl (fun hc => ?_) (fun hc => ?_) | fail)
          all_goals first | (exfalso; omega) | skip
          refine ⟨⟨1, k + 1, 0⟩, hlt, by dsimp only; omega, ?_⟩
          dsimp only [sgO]
          rw [sgR_s, e, sgR_0]
          exact Wk.cq3 [0, 3]
        | succ i =>
          have hn : (sgR m l (i + 1)).length = (sgm m l (i + 1)).1.length + 1 := by rw [sgR_s, List.length_append, List.length_singleton]
          dsimp only [sgO]
          rw [hn]
          rw [sgR_s] at e
          generalize hf : (sgm m l (i + 1)).1 = fz at *
          generalize hg : (sgm m l (i + 1)).2 = last at *
          refine AW.wk (Wk.freezeRa 1 rfl 0 rfl (FzL.app _ (.cons (.all (List.length_map _)) .nil)) rfl) ?_
          rw [show fz.map sgF ++ [AV.t (.lst (last.map tI))] = (fz ++ [last]).map sgF by rw [List.map_append]; rfl]
          repeat' (first | ((with_reducible refine kAL ?_); (first | refine sgI rfl rfl rfl rfl rfl rfl (by first | rfl | omega | ((try simp only [List.length_map, List.length_append, List.length_singleton, List.length_nil]); first | done | omega)) (by first | rfl | omega | ((try simp only [List.length_map, List.length_append, List.length_singleton, List.length_nil]); first | done | omega)) ?_ | refine sgL rfl rfl rfl rfl rfl (by first | rfl | omega | ((try simp only [List.length_map, List.length_append, List.length_singleton, List.length_nil]); first | done | omega)) ?_ | refine sgS rfl rfl rfl rfl rfl (by first | rfl | omega | ((try simp only [List.length_map, List.length_append, List.length_singleton, List.length_nil]); first | done | omega)) rfl rfl ?_ | refine sgN rfl rfl rfl (.push rfl rfl) ?_ | refine sgA rfl rfl rfl rfl rfl (by first | rfl | omega | ((try simp only [List.length_map, List.length_append, List.length_singleton, List.length_nil]); first | done | omega)) rfl rfl (by first | rfl | omega | ((try simp only [List.length_map, List.length_append, List.length_singleton, List.length_nil]); first | done | omega)) rfl ?_ | (refine kL 12 rfl ?_; first | refine A_append_nlsub rfl rfl _ _ 26 rfl ud26 inf22 rfl rfl rfl rfl (by (try simp only [List.length_map, List.length_append, List.length_cons, List.length_nil]); omega) qB qB List.map_drop.symm (.push qL qN) ?_ | refine A_append_nlsub rfl rfl _ _ 22 rfl ud22 inf3 rfl rfl rfl rfl (by (try simp only [List.length_map, List.length_append, List.length_cons, List.length_nil]); omega) qB qB List.map_drop.symm (.push qL qN) ?_) | (refine kL 847 rfl ?_; first | refine A_lit rfl rfl 26 1 _ rfl ud26 inf22 (.cons rfl .nil) (els := [[_]]) rfl (by first | exact qN) rfl (Nat.ne_of_beq_eq_false rfl) (Nat.le_of_ble_eq_true rfl) (Nat.le_of_ble_eq_true rfl) (.push qL qN) ?_) | (refine kL 719 rfl ?_; first | refine A_lit rfl rfl 22 1 _ rfl ud22 inf3 (.cons rfl .nil) (els := [[_]]) rfl (by first | exact qN) rfl (Nat.ne_of_beq_eq_false rfl) (Nat.le_of_ble_eq_true rfl) (Nat.le_of_ble_eq_true rfl) (.push qL qN) ?_) | refine uA ?_)) | refine uC ?_ | refine kcp rfl (fun hc => ?_) (fun hc => ?_) | refine kcn rfl (fun hc => ?_) (fun hc => ?_) | refine kcb rfl (fun hc => ?_) (fun hc => ?_) | refine kcc rfl (fun hc => ?_) (fun hc => ?_) | fail)
          all_goals first | (exfalso; omega) | skip
          refine ⟨⟨i + 1 + 1, k + 1, 0⟩, hlt, by dsimp only; omega, ?_⟩
          dsimp only [sgO]
          rw [sgR_s, e]
          dsimp only
          rw [show (fz ++ [last] ++ [[x]]).length = fz.length + 1 + 1 by simp]
          exact Wk.cq3 [0, 4] (hh := by
            show [Ob.ra (k + 1) _ (((fz ++ [last]).map sgF ++ [AV.sl 4 0 1]).map (upB (idxK [0, 4]))), Ob.row 0 _ 1 [tI x]] = _
            rw [sgUp]
            rfl)
      · cases i with
        | zero => exact absurd (Nat.zero_mod m) hd
        | succ i =>
          have e := sgm_old hd hx
          have hn : (sgR m l (i + 1)).length = (sgm m l (i + 1)).1.length + 1 := by rw [sgR_s, List.length_append, List.length_singleton]
          dsimp only [sgO]
          rw [hn]
          generalize hf : (sgm m l (i + 1)).1 = fz at *
          generalize hg : (sgm m l (i + 1)).2 = last at *
          have h2 : (last.map tI).length = last.length := List.length_map _
          have h3 := sgm_len (m := m) (l := l) (i + 1)
          rw [hg] at h3
          repeat' (first | ((with_reducible refine kAL ?_); (first | refine sgI rfl rfl rfl rfl rfl rfl (by first | rfl | omega | ((try simp only [List.length_map, List.length_append, List.length_singleton, List.length_nil]); first | done | omega)) (by first | rfl | omega | ((try simp only [List.length_map, List.length_append, List.length_singleton, List.length_nil]); first | done | omega)) ?_ | refine sgL rfl rfl rfl rfl rfl (by first | rfl | omega | ((try simp only [List.length_map, List.length_append, List.length_singleton, List.length_nil]); first | done | omega)) ?_ | refine sgS rfl rfl rfl rfl rfl (by first | rfl | omega | ((try simp only [List.length_map, List.length_append, List.length_singleton, List.length_nil]); first | done | omega)) rfl rfl ?_ | refine sgN rfl rfl rfl (.push rfl rfl) ?_ | refine sgA rfl rfl rfl rfl rfl (by first | rfl | omega | ((try simp only [List.length_map, List.length_append, List.length_singleton, List.length_nil]); first | done | omega)) rfl rfl (by first | rfl | omega | ((try simp only [List.length_map, List.length_append, List.length_singleton, List.length_nil]); first | done | omega)) rfl ?_ | (refine kL 12 rfl ?_; first | refine A_append_nlsub rfl rfl _ _ 26 rfl ud26 inf22 rfl rfl rfl rfl (by (try simp only [List.length_map, List.length_append, List.length_cons, List.length_nil]); omega) qB qB List.map_drop.symm (.push qL qN) ?_ | refine A_append_nlsub rfl rfl _ _ 22 rfl ud22 inf3 rfl rfl rfl rfl (by (try simp only [List.length_map, List.length_append, List.length_cons, List.length_nil]); omega) qB qB List.map_drop.symm (.push qL qN) ?_) | (refine kL 847 rfl ?_; first | refine A_lit rfl rfl 26 1 _ rfl ud26 inf22 (.cons rfl .nil) (els := [[_]]) rfl (by first | exact qN) rfl (Nat.ne_of_beq_eq_false rfl) (Nat.le_of_ble_eq_true rfl) (Nat.le_of_ble_eq_true rfl) (.push qL qN) ?_) | (refine kL 719 rfl ?_; first | refine A_lit rfl rfl 22 1 _ rfl ud22 inf3 (.cons rfl .nil) (els := [[_]]) rfl (by first | exact qN) rfl (Nat.ne_of_beq_eq_false rfl) (Nat.le_of_ble_eq_true rfl) (Nat.le_of_ble_eq_true rfl) (.push qL qN) ?_) | refine uA ?_)) | refine uC ?_ | refine kcp rfl (fun hc => ?_) (fun hc => ?_) | refine kcn rfl (fun hc => ?_) (fun hc => ?_) | refine kcb rfl (fun hc => ?_) (fun hc => ?_) | refine kcc rfl (fun hc => ?_) (fun hc => ?_) | fail)
          all_goals first | (exfalso; omega) | skip
          refine ⟨⟨i + 1 + 1, k, v + 1⟩, hlt, by dsimp only; omega, ?_⟩
          dsimp only [sgO]
          rw [sgR_s, e]
          dsimp only
          rw [show (fz ++ [last ++ [x]]).length = fz.length + 1 by simp, show (last ++ [x]).length = last.length + 1 by simp]
          exact Wk.cq3 [0, 1] (hh := by
            show [Ob.ra k _ ((fz.map sgF ++ [AV.sl 1 (v + 1) (last.length + 1)]).map (upB (idxK [0, 1]))), Ob.row (v + 1) _ 1 _] = _
            rw [sgUp]
            rfl)
    · obtain rfl : i = l.length := by omega
      obtain ⟨rest, hr, hw⟩ := sgO_row m l l.length k v (n := ⟨39, 0⟩) (T := (pu (pu (pu (pu (pu (fun _ => .any) 1 (i64 size)) 5 (.sl 0 k (sgR m l l.length).length)) 9 (.ln (l.map tI))) 10 (i64 (l.map tI).length)) 11 (i64 l.length)))
      refine AW.wk hw ?_
      rcases hr with rfl | rfl
      all_goals
        repeat' (first | ((with_reducible refine kAL ?_); (first | (refine kL 12 rfl ?_; first | refine A_append_nlsub rfl rfl _ _ 26 rfl ud26 inf22 rfl rfl rfl rfl (by (try simp only [List.length_map, List.length_append, List.length_cons, List.length_nil]); omega) qB qB List.map_drop.symm (.push qL qN) ?_ | refine A_append_nlsub rfl rfl _ _ 22 rfl ud22 inf3 rfl rfl rfl rfl (by (try simp only [List.length_map, List.length_append, List.length_cons, List.length_nil]); omega) qB qB List.map_drop.symm (.push qL qN) ?_) | (refine kL 847 rfl ?_; first | refine A_lit rfl rfl 26 1 _ rfl ud26 inf22 (.cons rfl .nil) (els := [[_]]) rfl (by first | exact qN) rfl (Nat.ne_of_beq_eq_false rfl) (Nat.le_of_ble_eq_true rfl) (Nat.le_of_ble_eq_true rfl) (.push qL qN) ?_) | (refine kL 719 rfl ?_; first | refine A_lit rfl rfl 22 1 _ rfl ud22 inf3 (.cons rfl .nil) (els := [[_]]) rfl (by first | exact qN) rfl (Nat.ne_of_beq_eq_false rfl) (Nat.le_of_ble_eq_true rfl) (Nat.le_of_ble_eq_true rfl) (.push qL qN) ?_) | refine uA ?_)) | refine uC ?_ | refine kcp rfl (fun hc => ?_) (fun hc => ?_) | refine kcn rfl (fun hc => ?_) (fun hc => ?_) | refine kcb rfl (fun hc => ?_) (fun hc => ?_) | refine kcc rfl (fun hc => ?_) (fun hc => ?_) | fail)
        all_goals first | (exfalso; omega) | ((first | exact Fin.q Try.results6 (.cons (.tmp rfl) .nil) [0] | refine Fin.q Try.results6 (.cons (.tmp rfl) .nil) [0] (hr := (.t ?_)) | refine Fin.mkv (rs := _) Try.results6 (.cons (.tmp rfl) .nil) [0] (by decide) rfl ?_ ?_ ?_ <;> repeat' (skip; first | exact .nil | refine .cons rfl ?_ ?_ | refine .cons ?_ ?_ | refine .row ?_ | refine .rset ?_ | refine .box ?_ | exact .gone | refine .aggL ?_ | refine .tupL ?_ | refine .old rfl ?_ | refine .new rfl rfl rfl ?_ | exact .nl | exact .optr rfl | exact .nptr rfl rfl rfl | refine .t ?_ | exact .any _ | rfl)))
end Go.Proofs.Ytmljglphegeilaa

