/- Joined: XLD, XTEnc, XTData, XTCopy, XTArrV, XTMap, XTClip, XTU, XTUI, XTAbb, XPl, XTPlace, XTTeeP, XTIdx, XTConI, XTPlain, XTTeeA, XTTeeR, XTTeeN, XTCases, XTTeeG, XTLaw17, XTBegins, XTRa, XTRa2, XTNzB, XTIoS, XTTeeS. -/
import Derived.Test.YtmljglphegeilaaKBb
import Derived.Deep.Slices
import Derived.SizedLaws
import Derived.Carry
import Derived.ChangeSame
import Derived.Handed
import Derived.JoinedOf
import Derived.ProofKit
import Derived.OpenShut
import Derived.JoinedCond
import Derived.Deep.CondSized
import Derived.Lib.SmallJoins
import Derived.Laws.IdiomCopy
import Derived.Laws.CopyRow
namespace Go.Proofs.Ytmljglphegeilaa
set_option linter.unusedVariables false
set_option linter.unusedSimpArgs false
set_option linter.unnecessarySimpa false
open Go.RowKit Go.ChangeShapes Go.WideShapes
def Opens {H : Type} (enc : TypeId × Value → H) (P : Program) (w : World) (t : TypeId) {α : Type} (f : α → List Tr) (s : α → Prop) (bk : α → Nat) : Prop :=
  ∀ (n : Nat) (cs : List Value) (x : DataW H × List MemPlace), DataW.trod enc P w 0 (fun _ => true) true n t cs = some x →
    ∃ a, cs.length = (f a).length ∧ ((∀ m ∈ x.1.weights P t, m ≤ reachBytes) → s a) ∧ bk a ≤ Rows.uptoBulk x.1 ∧ ∀ (j : Nat) tr u, (f a)[j]? = some tr → cs[j]? = some u → Frz w (fun b => b < w.heap.size) tr u
theorem Opens.int {H : Type} {enc : TypeId × Value → H} {P : Program} {w : World} {t : TypeId} {k : IntKind} (ht : P.underlying t = some (.int k)) : Opens enc P w t (fun x : Int => [.v (.int k x)]) (fun x => (Lit.int k x).wf = true) (fun _ => 1) := by
  intro n cs x h
  obtain ⟨a, rfl, rfl, hw⟩ := DataW.trod_int ht h
  refine ⟨a, rfl, fun _ => hw, Nat.le_refl _, fun j tr u hj hu => ?_⟩
  cases j with
  | zero => simp at hj hu; subst hj hu; exact .v rfl
  | succ j => simp at hj
theorem Opens.bool {H : Type} {enc : TypeId × Value → H} {P : Program} {w : World} {t : TypeId} (ht : P.underlying t = some .bool) : Opens enc P w t (fun x : Bool => [.v (.bool x)]) (fun _ => True) (fun _ => 1) := by
  intro n cs x h
  obtain ⟨a, rfl, rfl⟩ := DataW.trod_bool ht h
  refine ⟨a, rfl, fun _ => trivial, Nat.le_refl _, fun j tr u hj hu => ?_⟩
  cases j with
  | zero => simp at hj hu; subst hj hu; exact .v rfl
  | succ j => simp at hj
theorem Opens.map {H : Type} {enc : TypeId × Value → H} {P : Program} {w : World} {t : TypeId} {α β : Type} {f : α → List Tr} {s : α → Prop} {bk : α → Nat} (h : Opens enc P w t f s bk) (e : α → β) {f' : β → List Tr} {s' : β → Prop} {bk' : β → Nat} (hf : ∀ a, f' (e a) = f a) (hs : ∀ a, s a → s' (e a)) (hb : ∀ a, bk' (e a) ≤ bk a) : Opens enc P w t f' s' bk' := by
  intro n cs x hx
  obtain ⟨a, h1, h2, h3, h4⟩ := h n cs x hx
  exact ⟨e a, by rw [hf]; exact h1, fun hw => hs _ (h2 hw), Nat.le_trans (hb a) h3, by rw [hf]; exact h4⟩
theorem weightsAll_mem {H : Type} {P : Program} {e : TypeId} {d : DataW H} {m : Nat} : ∀ {l : List (DataW H)}, d ∈ l → m ∈ d.weights P e → m ∈ DataW.weightsAll P e l
  | x :: l, h, hm => by
    simp only [DataW.weightsAll, List.mem_append]
    rcases List.mem_cons.1 h with h | h
    · subst h; exact .inl hm
    · exact .inr (weightsAll_mem h hm)
theorem bulkAll_sum {H : Type} {α : Type} {bk : α → Nat} : ∀ {l : List (DataW H)} {m : List α}, m.length = l.length → (∀ (i : Nat) (a : α) (y : DataW H), m[i]? = some a → l[i]? = some y → bk a ≤ Rows.uptoBulk y) → (m.map bk).sum ≤ Rows.uptoBulkAll l
  | [], [], _, _ => by simp [Rows.uptoBulkAll]
  | [], _ :: _, h, _ => by simp at h
  | _ :: _, [], h, _ => by simp at h
  | y :: l, a :: m, hl, h => by
    have h0 := h 0 a y rfl rfl
    have h1 := bulkAll_sum (l := l) (m := m) (by simpa using hl) (fun i a y h1 h2 => h (i + 1) a y (by simpa using h1) (by simpa using h2))
    simp only [Rows.uptoBulkAll, List.map_cons, List.sum_cons]
    omega
theorem Opens.slice {H : Type} {enc : TypeId × Value → H} {P : Program} {w : World} {t e : TypeId} {α : Type} [Inhabited α] {f : α → List Tr} {q : α → Prop} {bk : α → Nat} {s by_ : Nat} (ht : P.underlying t = some (.slice e)) (hs : P.cellsOf e = s) (hy : P.bytesOf e = by_) (hf : ∀ a, (f a).length = s) (h : Opens enc P w e f q bk) :
    Opens enc P w t (fun l : List α => [.lst (l.map f)]) (fun l => l.length * by_ ≤ reachBytes ∧ ∀ a ∈ l, q a) (fun l => (l.map bk).sum + 1) := by
  intro n cs x hx
  rcases Go.Deep.open_slice ht hx with ⟨rfl, rfl⟩ | ⟨a, len, cap, m, n', D, Pl, rfl, _, hl, hm, hmm, rfl, hel⟩
  · refine ⟨[], rfl, fun _ => ⟨by simp, by simp⟩, by simp [Rows.uptoBulk], fun j tr u hj hu => ?_⟩
    cases j with
    | zero => simp at hj hu; subst hj hu; exact .lst (size := s) (xs := []) ⟨Nat.le_refl _, Nat.zero_le _, fun _ => ⟨rfl, rfl⟩, by simp, fun j u hj => by simp at hj⟩ (fun h => absurd rfl h) rfl (fun _ h => by simp at h) (fun i cs j x u hi => by simp at hi)
    | succ j => simp at hj
  · have hmm' : m = cap := by simpa using hmm
    subst hmm'
    obtain ⟨A, hA⟩ := Go.Deep.choose_lt (α := α) (n := m) (p := fun i b => ∃ cs', w.cells? 0 (a.add (i * P.cellsOf e)) (P.cellsOf e) = some cs' ∧ cs'.length = (f b).length ∧ (((∀ m ∈ (D i).weights P e, m ≤ reachBytes) → q b) ∧ bk b ≤ Rows.uptoBulk (D i)) ∧ ∀ (j : Nat) tr u, (f b)[j]? = some tr → cs'[j]? = some u → Frz w (fun b => b < w.heap.size) tr u) (fun i hi => by
      obtain ⟨cs', h1, h2⟩ := hel i hi
      obtain ⟨b, q1, q2, q2', q3⟩ := h _ _ _ h2
      exact ⟨b, cs', h1, q1, ⟨q2, q2'⟩, q3⟩)
    have cell : ∀ i j, i < len → j < s → ∃ u, w.cell? (a.add (i * s + j)) = some u ∧ ∀ tr, (f (A i))[j]? = some tr → Frz w (fun b => b < w.heap.size) tr u := fun i j hi hj => by
      obtain ⟨cs', h1, h2, _, h3⟩ := hA i (by omega)
      rw [hs] at h1
      obtain ⟨_, c2, c3⟩ := World.cells?_some h1
      have hlt : j < cs'.length := by omega
      refine ⟨cs'[j], ?_, fun tr htr => h3 j tr _ htr (List.getElem?_eq_getElem hlt)⟩
      rw [← Go.Deep.add_add, c3 j (by omega), List.getElem?_eq_getElem hlt]
    let xs : List Value := (List.range (len * s)).map fun q => (w.cell? (a.add q)).getD (.bool false)
    have hxl : xs.length = len * s := by simp [xs]
    have hget : ∀ i j, i < len → j < s → ∃ u, xs[i * s + j]? = some u ∧ w.cell? (a.add (i * s + j)) = some u ∧ ∀ tr, (f (A i))[j]? = some tr → Frz w (fun b => b < w.heap.size) tr u := fun i j hi hj => by
      obtain ⟨u, h1, h2⟩ := cell i j hi hj
      refine ⟨u, ?_, h1, h2⟩
      simp only [xs, List.getElem?_map, List.getElem?_range (idx_lt hi hj), Option.map_some, h1, Option.getD_some]
    have hdiv : ∀ q, q < len * s → ∃ i j, i < len ∧ j < s ∧ q = i * s + j := fun q hq => by
      have hs0 : 0 < s := by
        rcases Nat.eq_zero_or_pos s with e | e
        · rw [e] at hq; omega
        · exact e
      exact ⟨q / s, q % s, (Nat.div_lt_iff_lt_mul hs0).2 hq, Nat.mod_lt _ hs0, by rw [Nat.mul_comm]; exact (Nat.div_add_mod q s).symm⟩
    have hlr : ((List.range len).map A).length = len := by simp
    refine ⟨(List.range len).map A, rfl, fun hw => ⟨?_, fun b hb => ?_⟩, ?_, fun j tr u hj hu => ?_⟩
    · have := hw ((((List.range len).map D).length + ((List.range (m - len)).map fun j => D (len + j)).length) * P.bytesOf e) (by simp only [DataW.weights, ht]; exact List.mem_cons_self ..)
      simp only [List.length_map, List.length_range, hy] at this ⊢
      exact Nat.le_trans (Nat.mul_le_mul_right _ (Nat.le_add_right _ _)) this
    · obtain ⟨i, hi, rfl⟩ := List.mem_map.1 hb
      have hi' : i < len := by simpa using hi
      obtain ⟨_, _, _, qq, _⟩ := hA i (by omega)
      refine qq.1 fun k hk => hw k ?_
      simp only [DataW.weights, ht]
      exact List.mem_cons_of_mem _ (List.mem_append_left _ (weightsAll_mem (List.mem_map.2 ⟨i, hi, rfl⟩) hk))
    · have := bulkAll_sum (l := (List.range len).map D) (m := (List.range len).map A) (bk := bk) (by simp) (fun i a y h1 h2 => by
        have hi : i < len := by have := get_lt h1; simpa using this
        simp only [List.getElem?_map, List.getElem?_range hi, Option.map_some, Option.some.injEq] at h1 h2
        subst h1 h2
        obtain ⟨_, _, _, qq, _⟩ := hA i (by omega)
        exact qq.2)
      simp only [Rows.uptoBulk]
      omega
    · cases j with
      | succ j => simp at hj
      | zero =>
        simp at hj hu
        subst hj hu
        refine .lst (size := s) (xs := xs) ⟨hl, hm, fun h => (by cases h), hxl, fun q u hq => ?_⟩ (fun hne => ?_) (by simp) (fun cs hcs => ?_) (fun i cs j x u hi hj hu => ?_)
        · have hq' := get_lt hq
          rw [hxl] at hq'
          obtain ⟨i, j, hi, hj, rfl⟩ := hdiv q hq'
          obtain ⟨u', h1, h2, _⟩ := hget i j hi hj
          rw [h1] at hq; cases hq
          exact h2
        · have hpos : 0 < xs.length := List.length_pos_iff.2 hne
          rw [hxl] at hpos
          obtain ⟨i, j, hi, hj, he⟩ := hdiv 0 hpos
          obtain ⟨u', _, h2, _⟩ := hget i j hi hj
          have := World.block_lt_of_cell? w _ h2
          rw [add_block] at this
          exact this
        · simp at hcs
          obtain ⟨i, _, rfl⟩ := hcs
          exact hf _
        · have hi' : i < len := by have := get_lt hi; simpa using this
          simp only [List.getElem?_map, List.map_map, List.getElem?_range hi', Option.map_some, Option.some.injEq, Function.comp] at hi
          subst hi
          have hj' := get_lt hj
          rw [hf] at hj'
          obtain ⟨u', h1, _, h3⟩ := hget i j hi' hj'
          rw [h1] at hu; cases hu
          exact h3 x hj
def OpensF {H : Type} (enc : TypeId × Value → H) (P : Program) (w : World) (fs : List Field) (off : Nat) {α : Type} (f : α → List Tr) (s : α → Prop) (bk : α → Nat) : Prop :=
  ∀ (n : Nat) (cs : List Value) (ys : List (DataW H × List MemPlace)), ys.length = fs.length → (∀ (i : Nat) (fd : Field), fs[i]? = some fd → DataW.trod enc P w 0 (fun _ => true) true n fd.type ((cs.drop fd.offset).take (P.cellsOf fd.type)) = ys[i]?) →
    ∃ a, ((∀ m ∈ DataW.weightsEach P (fs.map (·.type)) (ys.map (·.1)), m ≤ reachBytes) → s a) ∧ bk a ≤ Rows.uptoBulkAll (ys.map (·.1)) ∧ ∀ (j : Nat) tr u, (f a)[j]? = some tr → cs[off + j]? = some u → Frz w (fun b => b < w.heap.size) tr u
theorem OpensF.nil {H : Type} {enc : TypeId × Value → H} {P : Program} {w : World} {off : Nat} : OpensF enc P w [] off (fun _ : Unit => []) (fun _ => True) (fun _ => 0) :=
  fun n cs ys _ _ => ⟨(), fun _ => trivial, Nat.zero_le _, fun j tr u hj => by simp at hj⟩
theorem OpensF.cons {H : Type} {enc : TypeId × Value → H} {P : Program} {w : World} {off s : Nat} {fd : Field} {fs : List Field} {α β : Type} {f : α → List Tr} {f' : β → List Tr} {q : α → Prop} {q' : β → Prop} {bk : α → Nat} {bk' : β → Nat} {t : TypeId}
    (htt : fd.type = t) (ho : fd.offset = off) (hs : P.cellsOf t = s) (hf : ∀ a, (f a).length = s) (h : Opens enc P w t f q bk) (k : OpensF enc P w fs (off + s) f' q' bk') :
    OpensF enc P w (fd :: fs) off (fun p : α × β => f p.1 ++ f' p.2) (fun p => q p.1 ∧ q' p.2) (fun p => bk p.1 + bk' p.2) := by
  subst htt
  intro n cs ys hl hy
  cases ys with
  | nil => simp at hl
  | cons y ys =>
    have h0 := hy 0 fd rfl
    obtain ⟨a, q1, q2, q2', q3⟩ := h _ _ _ h0
    obtain ⟨b, r2, r2', r3⟩ := k n cs ys (by simpa using hl) (fun i fd' h1 => by have := hy (i + 1) fd' (by simpa using h1); simpa using this)
    rw [hs, hf, ho, List.length_take, List.length_drop] at q1
    refine ⟨(a, b), fun hw => ⟨q2 fun m hm => hw m (by simp only [List.map_cons, DataW.weightsEach, List.mem_append]; exact .inl hm), r2 fun m hm => hw m (by simp only [List.map_cons, DataW.weightsEach, List.mem_append]; exact .inr hm)⟩, by simp only [List.map_cons, Rows.uptoBulkAll]; omega, fun j tr u hj hu => ?_⟩
    by_cases hjs : j < s
    · rw [List.getElem?_append_left (by rw [hf]; exact hjs)] at hj
      refine q3 j tr u hj ?_
      rw [hs, ho, List.getElem?_take, if_pos hjs, List.getElem?_drop]
      exact hu
    · rw [List.getElem?_append_right (by rw [hf]; omega), hf] at hj
      refine r3 (j - s) tr u hj ?_
      rw [← hu]; congr 1; omega
theorem Opens.struct {H : Type} {enc : TypeId × Value → H} {P : Program} {w : World} {t : TypeId} {fs : List Field} {n : Nat} {α : Type} {f : α → List Tr} {q : α → Prop} {bk : α → Nat} (ht : P.underlying t = some (.struct fs.toArray)) (hn : P.cellsOf t = n) (hf : ∀ a, (f a).length = n) (h : OpensF enc P w fs 0 f q bk) : Opens enc P w t f q bk := by
  intro m cs x hx
  obtain ⟨xs, m', rfl, rfl, h1, h2, h3⟩ := DataW.trod_struct ht hx
  obtain ⟨a, q1, q2, q3⟩ := h m' cs xs (by simpa using h2) (fun i fd hi => h3 i fd (by simpa using hi))
  refine ⟨a, by rw [hf, h1, hn], fun hw => q1 fun k hk => hw k ?_, ?_, fun j tr u hj hu => q3 j tr u hj (by simpa using hu)⟩
  · simp only [DataW.weights, ht]
    simpa using hk
  · simp only [Rows.uptoBulk]; omega

def toAV : Tr → AV
  | .v x => .t (.v x)
  | .lst els => .ln els
theorem val_toAV {Kn : Nat → Nat → Prop} {ρ : Rho} {w : World} {Z Y : Nat → Prop} (hy : ∀ b, Z b → Y b) {x : Tr} {v : Value} (h : Frz w Z x v) : Val Kn ρ w Z Y (toAV x) v := by
  cases x with
  | v x => exact .t h
  | lst els =>
    obtain ⟨a, c, size, xs, rfl, hr, hz, he⟩ := h.open
    exact .ln hr (fun hne => hy _ (hz hne)) rfl he
def argAV (agg : Bool) (l : List Tr) : AV := bif agg then .agg (l.map toAV) else match l with
  | [x] => toAV x
  | _ => .any
def isAgg (P : Program) (t : TypeId) : Option Bool := match P.underlying t with
  | some (.struct _) => some true
  | some (.int _) | some .bool | some .string | some (.slice _) => some false
  | _ => none
theorem isAgg_struct {P : Program} {t : TypeId} (h : isAgg P t = some true) : ∃ fs, P.underlying t = some (.struct fs) := by
  unfold isAgg at h
  split at h
  · rename_i fs ht; exact ⟨fs, ht⟩
  all_goals cases h
theorem isAgg_cell {P : Program} {t : TypeId} (h : isAgg P t = some false) {w : World} {r : Reach} {b0 : Nat} {v : Value} (hv : Value.okWide P w r b0 t v) : v.cells.toList = [v] := by
  unfold isAgg at h
  split at h
  · cases h
  · rename_i ht; obtain ⟨n, rfl⟩ := okWide_int ht hv; rfl
  · rename_i ht; obtain ⟨n, rfl⟩ := okWide_bool ht hv; rfl
  · rename_i ht; obtain ⟨n, rfl⟩ := okWide_string ht hv; rfl
  · rename_i ht; obtain ⟨a, l, c, rfl⟩ := okWide_slice ht hv; rfl
  · cases h
theorem Opens.arg {H : Type} {enc : TypeId × Value → H} {P : Program} {w : World} {t : TypeId} {α : Type} {f : α → List Tr} {s : α → Prop} {bk : α → Nat} (h : Opens enc P w t f s bk) {b : Bool} (hb : isAgg P t = some b) (h1 : b = false → ∀ a, (f a).length = 1)
    {r : Reach} {b0 : Nat} {v : Value} {d : DataW H} {ps : List MemPlace} (hv : Value.okWide P w r b0 t v) (hd : DataW.Trod enc P w 0 (fun _ => true) true t v d ps) :
    ∃ a, ((∀ m ∈ d.weights P t, m ≤ reachBytes) → s a) ∧ bk a ≤ Rows.uptoBulk d ∧ ∀ (Kn : Nat → Nat → Prop) (ρ : Rho), Val Kn ρ w (fun b => b < w.heap.size) (fun b => b < w.heap.size) (argAV b (f a)) v := by
  obtain ⟨fuel, hd⟩ := hd
  obtain ⟨a, q1, q2, q3, q4⟩ := h _ _ _ hd
  refine ⟨a, q2, q3, fun Kn ρ => ?_⟩
  cases b with
  | true =>
    obtain ⟨fs, ht⟩ := isAgg_struct hb
    obtain ⟨cs, rfl, hsz⟩ := okWide_struct ht hv
    have e : cs = cs.toList.toArray := by simp
    rw [e]
    simp only [Value.cells] at q1 q4
    refine .agg (by simpa using q1.symm) (fun u hu => ?_) (fun j x u hj hu => ?_)
    · obtain ⟨j, hj⟩ := List.getElem?_of_mem hu
      have hl := get_lt hj
      rw [q1] at hl
      exact (q4 j _ u (List.getElem?_eq_getElem hl) hj).one
    · simp only [List.getElem?_map, Option.map_eq_some_iff] at hj
      obtain ⟨y, hy, rfl⟩ := hj
      exact val_toAV (fun _ h => h) (q4 j y u hy hu)
  | false =>
    have hl := h1 rfl a
    match hfa : f a, hl with
    | [x], _ =>
      rw [hfa] at q1 q4
      show Val Kn ρ w _ _ (toAV x) v
      have hna := isAgg_cell hb hv
      rw [hna] at q4
      exact val_toAV (fun _ h => h) (q4 0 x v rfl rfl)
end Go.Proofs.Ytmljglphegeilaa

namespace Go.Proofs.Ytmljglphegeilaa
set_option linter.unusedVariables false
set_option linter.unusedSimpArgs false
set_option linter.unnecessarySimpa false
open Go.ChangeShapes Go.WideShapes Go.ChangeAt Go.RowKit

theorem trodAll_stays {H : Type} {enc : TypeId × Value → H} {P : Program} (hl : laidOutB P = true) {W W' : World} (hb : Below W.heap.size W W') {sp : Nat → Bool} :
    ∀ (ts : List TypeId) (vs : List Value) (ds : List (DataW H)) (ps : List MemPlace), (∀ t ∈ ts, P.readableRec t = true ∧ t < P.types.size) → DataW.TrodAll enc P W 0 (fun _ => true) true ts vs ds ps →
      (∀ x ∈ ps, x.block < W.heap.size) → (∀ x ∈ ps, sp x.block = true) → DataW.TrodAll enc P W' 0 sp true ts vs ds ps := by
  intro ts
  induction ts with
  | nil =>
    intro vs ds ps _ h _ _
    obtain ⟨rfl, rfl, rfl⟩ := trodAll_nil h
    exact rfl
  | cons t ts ih =>
    intro vs ds ps hr h hlt hsp
    obtain ⟨v, vs, d, ds, p, q, rfl, rfl, rfl, h1, h2⟩ := trodAll_cons h
    refine ⟨p, q, ?_, ih vs ds q (fun t ht => hr t (List.mem_cons_of_mem _ ht)) h2 (fun x hx => hlt x (List.mem_append_right _ hx)) (fun x hx => hsp x (List.mem_append_right _ hx)), rfl⟩
    exact WideElems.Trod_stays hl (hr t (List.mem_cons_self ..)).1 (hr t (List.mem_cons_self ..)).2 h1 (fun x hx => hb.same (hlt x (List.mem_append_left _ hx))) (fun x hx => hsp x (List.mem_append_left _ hx))

theorem law_post {H : Type} {enc : TypeId × Value → H} {P : Program} {f : Func} {s : ChangeSpec} {apart fresh handsOn again : Bool} {W W' : World} {args : Array Value} {ds gs : List (DataW H)} {before : List MemPlace} {tb : TypeId}
    (hl : laidOutB P = true) (hr : ∀ t ∈ f.params.toList, P.readableRec t = true ∧ t < P.types.size) (hres : f.resultTypes = #[tb]) (htb : P.underlying tb = some .bool) (hvars : s.vars = [])
    (hW : DataW.Whole enc P f.params.toList s.vars apart W args.toList ds gs before)
    (hfn : (s.fn H (ds ++ gs)).results = [.lit (.bool true)] ∧ (s.fn H (ds ++ gs)).args = ds ∧ (s.fn H (ds ++ gs)).vars = [])
    (hb : Below W.heap.size W W') : s.post enc P f apart fresh handsOn again W args (.bool true) W' := by
  have hlt : ∀ p ∈ before, p.block < W.heap.size := fun p hp => hW.lt p hp
  have hold : ∀ p ∈ before, (fun b => decide (b < W.heap.size)) p.block = true := fun p hp => by simpa using hlt p hp
  have hW' := hW
  obtain ⟨p, q, hA, hV, hps, hz, hn⟩ := hW
  rw [hvars] at hV
  obtain ⟨rfl, rfl⟩ := trodVars_none hV
  have hpb : before = p := by simpa using hps
  subst hpb
  have hres' : ∀ (b : Nat) (sp : Nat → Bool) (hd : Bool), DataW.TrodAll enc P W' b sp hd f.resultTypes.toList ((Value.bool true).resultList f.resultTypes.size) [.lit (.bool true)] [] := fun b sp hd => by
    rw [hres]
    exact trodAll_mk1 (shut_bool htb _)
  have hargs : ∀ sp : Nat → Bool, (∀ p ∈ before, sp p.block = true) → DataW.TrodAll enc P W' 0 sp true f.params.toList args.toList ds before := fun sp hsp => trodAll_stays hl hb _ _ _ _ hr hA hlt hsp
  have hvs : ∀ sp : Nat → Bool, DataW.TrodVars enc P W' sp s.vars [] [] := fun sp => by rw [hvars]; exact rfl
  refine ⟨ds, [], before, [], before, [], hW', ?_, ?_, ?_, World.keptBut_mono (fun p hp => ⟨hp, Or.inr (Or.inl hp)⟩) (hb.frame (· ∈ before)), fun _ => ?_⟩
  · rw [hfn.1]; exact hres' _ _ _
  · rw [hfn.2.1]; exact hargs _ hold
  · rw [hfn.2.2]; exact hvs _
  · refine ⟨ok_one hres rfl (okWide_bool_mk htb _), [.lit (.bool true)] ++ ds, [], [] ++ before ++ [], ⟨[] ++ before, [], trodAll_append (hargs _ (fun _ _ => rfl)) (hres' _ _ _), hvs _, rfl, ?_, ?_⟩, ?_⟩
    · intro b off hp
      have hin : MemPlace.cell b off ∈ before := by simpa using hp
      rw [hb.frozen (hlt _ hin)]
      exact hz b off hin
    · intro ha
      simpa using hn ha
    · intro p hp _
      simpa using hp
#print axioms law_post
end Go.Proofs.Ytmljglphegeilaa

namespace Go.Proofs.Ytmljglphegeilaa
set_option linter.unusedVariables false
set_option linter.unusedSimpArgs false
set_option linter.unnecessarySimpa false
open Go.RowKit Go.ChangeShapes Go.WideShapes Go.ChangeAt Go.Joins Go.Deep
theorem own : ownKnob Try.prog.godebug = none := by kernel_rfl
theorem laidOut : laidOutB Try.prog = true := by kernel_rfl
def oldEnv (W : World) : Env := { W := W, D := fun b => W.heap.size ≤ b, H := [], ρ := fun _ _ => ⟨none, 0, 0⟩, Z := fun b => b < W.heap.size, Y := fun b => b < W.heap.size, big := fun _ h => h, yd := fun b h1 h2 => by omega }
theorem Cd.law {P : Program} {f : FuncId} {args : List AV} (h : Cd P f args (.t (.v (.bool true))) []) {W : World} {vs : List Value} (hv : AVs (Val (Kn []) (oldEnv W).ρ W (oldEnv W).Z (oldEnv W).Y) args vs) :
    Calls P f vs.toArray W fun e W' => e = .returned (.bool true) ∧ Below W.heap.size W W' := by
  refine (h (oldEnv W) vs rfl ⟨fun i o hi => by simp [oldEnv] at hi, fun i j o o' b hi => by simp [oldEnv] at hi, fun i o b hi => by simp [oldEnv] at hi, fun b h => h, fun b h => h⟩ (fun i o b hi => by simp at hi) hv).mono ?_
  rintro en w' ⟨v, r, heap, ρ, Z, Y, rfl, ⟨rfl, rfl⟩, hok, hval⟩
  have e : v = .bool true := by
    cases hval with
    | t h => cases h; rfl
  subst e
  exact ⟨rfl, hok.os, hok.tape, hok.output, hok.size, fun k hk => hok.keep k (by simp only [oldEnv]; omega)⟩
theorem AVs.nil {R : AV → Value → Prop} : AVs R [] [] := ⟨rfl, fun j x u h => by simp at h⟩
theorem AVs.cons {R : AV → Value → Prop} {x : AV} {v : Value} {l : List AV} {us : List Value} (h : R x v) (k : AVs R l us) : AVs R (x :: l) (v :: us) := by
  refine ⟨by simp [k.len], fun j y u hj hu => ?_⟩
  cases j with
  | zero => simp at hj hu; subst hj hu; exact h
  | succ j => exact k.at_ j y u (by simpa using hj) (by simpa using hu)
theorem wt_of {H : Type} {P : Program} {ts us : List TypeId} {ds gs : List (DataW H)} (h : (DataW.weightsEach P (ts ++ us) (ds ++ gs)).all (· ≤ reachBytes) = true) {j : Nat} {t : TypeId} {d : DataW H} (ht : ts[j]? = some t) (hd : ds[j]? = some d) : ∀ m ∈ d.weights P t, m ≤ reachBytes := fun m hm => by
  have h1 : (ts ++ us)[j]? = some t := by rw [List.getElem?_append_left (get_lt ht)]; exact ht
  have h2 : (ds ++ gs)[j]? = some d := by rw [List.getElem?_append_left (get_lt hd)]; exact hd
  have := List.all_eq_true.1 h _ (DataW.weights_mem_each h1 h2 m hm)
  simpa using this
theorem i64_wf {x : Int} (h : (Lit.int .i64 x).wf = true) : -9223372036854775808 ≤ x ∧ x ≤ 9223372036854775807 := by have := bounds_i64 h; omega
inductive Wa : AV → AV → Prop
  | any (x : AV) : Wa x .any
  | refl (x : AV) : Wa x x
  | agg {l l' : List AV} (h1 : l.length = l'.length) (h : ∀ (j : Nat) x y, l[j]? = some x → l'[j]? = some y → Wa x y) : Wa (.agg l) (.agg l')
inductive WaL : List AV → List AV → Prop
  | nil : WaL [] []
  | cons {x y : AV} {l l' : List AV} (h : Wa x y) (k : WaL l l') : WaL (x :: l) (y :: l')
theorem WaL.get {l l' : List AV} (h : WaL l l') : l.length = l'.length ∧ ∀ (j : Nat) x y, l[j]? = some x → l'[j]? = some y → Wa x y := by
  induction h with
  | nil => exact ⟨rfl, fun j x y h => by simp at h⟩
  | @cons x y l l' h k ih =>
    refine ⟨by simp [ih.1], fun j a b ha hb => ?_⟩
    cases j with
    | zero => simp at ha hb; subst ha hb; exact h
    | succ j => exact ih.2 j a b (by simpa using ha) (by simpa using hb)
theorem Wa.aggL {l l' : List AV} (h : WaL l l') : Wa (.agg l) (.agg l') := .agg h.get.1 h.get.2
theorem Wa.val {Kn : Nat → Nat → Prop} {ρ : Rho} {w : World} {Z Y : Nat → Prop} {x y : AV} (h : Wa x y) : ∀ {v : Value}, Val Kn ρ w Z Y x v → Val Kn ρ w Z Y y v := by
  induction h with
  | any x => intro v _; exact .any v
  | refl x => intro v h; exact h
  | @agg l l' h1 h ih =>
    intro v hv
    cases hv with
    | @agg _ us e ho hu =>
      refine .agg (h1.symm.trans e) ho fun j y u hj hu' => ?_
      have hl := get_lt hj
      rw [← h1] at hl
      exact ih j _ y (List.getElem?_eq_getElem hl) hj (hu j _ u (List.getElem?_eq_getElem hl) hu')
theorem headD {α : Type} {l : List α} {x : α} (h : l.head? = some x) : ∃ r, l = x :: r := by
  cases l with
  | nil => cases h
  | cons y r => cases h; exact ⟨r, rfl⟩
theorem strip_cut (rest : List (List Char)) : stripLifts liftWords ("cut".toList :: rest) = ([], "cut".toList :: rest) := by
  simp [stripLifts, liftWords]
theorem mayEnter_cut {P : Program} (h : (behindMainWord (wordsSigns P.initOrder.toList)).head? = some "cut".toList) (h1 : P.laysLater = false) (h2 : P.bearsReflect = false) (h3 : P.doorFits [] = true) : P.mayEnter = true := by
  obtain ⟨rest, hr⟩ := headD h
  unfold Program.mayEnter
  rw [hr]
  simp only [strip_cut, h1, h2, h3]
  simp
theorem liftsFinal_cut {P : Program} (h : (behindMainWord (wordsSigns P.initOrder.toList)).head? = some "cut".toList) : P.liftsFinal = false := by
  obtain ⟨rest, hr⟩ := headD h
  unfold Program.liftsFinal Program.headLifts
  rw [hr]
  simp only [strip_cut]
  simp
theorem make_cut {P : Program} (h : (behindMainWord (wordsSigns P.initOrder.toList)).head? = some "cut".toList) : P.make = some .cut := by
  obtain ⟨rest, hr⟩ := headD h
  unfold Program.make
  rw [hr]
  simp
set_option maxRecDepth 100000 in
theorem cutHead : (behindMainWord (wordsSigns Try.prog.initOrder.toList)).head? = some "cut".toList := by
  have h := (congrArg String.toList (rfl : Try.prog.initOrder = String.ofList _)).trans String.toList_ofList
  rw [h]
  decide +kernel
theorem mayEnter_ok : Try.prog.mayEnter = true := mayEnter_cut cutHead (by kernel_rfl) (by kernel_rfl) (by kernel_rfl)
theorem liftsFinal_ok : Try.prog.liftsFinal = false := liftsFinal_cut cutHead
theorem make_ok : Try.prog.make = some .cut := make_cut cutHead
theorem and_mk {a b : Bool} (h : a = true) (k : b = true) : (a && b) = true := by simp [h, k]
end Go.Proofs.Ytmljglphegeilaa


namespace Go.Proofs.Ytmljglphegeilaa
set_option linter.unusedVariables false
set_option linter.unusedSimpArgs false
set_option linter.unnecessarySimpa false
open Go.RowKit
set_option maxHeartbeats 32000000
attribute [local irreducible] AL AW RG Fin C Cd Cio thenQ blockQ retQ
theorem mixed : Try.prog.follows .mixedOrders = true := by kernel_rfl
abbrev bo (b : Bool) : AV := .t (.v (.bool b))
abbrev i64 (x : Int) : AV := .t (.v (.int .i64 x))
def tI (x : Int) : List Tr := [.v (.int .i64 x)]
def tU (x : Int) : List Tr := [.v (.int .u64 x)]
structure Rst where
  seq : Int
  cas : Int
  code : Int
  value : Int
  deriving DecidableEq, Inhabited
def tR (r : Rst) : List Tr := [.v (.int .i64 r.seq), .v (.int .i64 r.cas), .v (.int .i64 r.code), .v (.int .i64 r.value)]
set_option maxRecDepth 100000 in
set_option maxHeartbeats 4000000 in
theorem clone_I (l : List Int) (h : l.length ≤ 17592186044416) : Cd Try.prog 17 [.ln (l.map tI)] (.sl 0 0 l.length) [.row 0 3 1 (l.map tI)] := by
  refine Cd.enter' Try.func17 rfl Try.ntmps17 rfl ?_
  repeat' (first | ((with_reducible refine kAL ?_); (first | (refine kL 1 rfl ?_; (first | refine A_move rfl rfl _ (.inr rfl) (y := .sl _ _ _) rfl ?_ | refine A_move rfl rfl _ (.inr rfl) (y := .nl) rfl ?_)) | refine A_move rfl rfl _ (.inl rfl) (y := .ln _) rfl ?_ | (refine kL 713 rfl ?_; (refine A_eqnil rfl rfl 22 _ _ rfl ud22 rfl (fun b hb => ?_))) | (refine kL 719 rfl ?_; refine A_lit0 rfl rfl 22 rfl ud22 inf3 ?_) | (refine kL 12 rfl ?_; (refine A_append_nl rfl rfl _ _ 22 rfl ud22 inf3 rfl rfl (by exact .ln (by exact each_map (fun _ => rfl))) qB qB (by exact qN) (.push qL qN) qS ?_)) | refine AL.nil ?_)) | with_reducible refine AW.at_region _ ?_ | (with_reducible (first | refine wk0 ?_ | refine wk2 ?_ | refine wk3 ?_ | refine wk9 ?_ | refine wkb ?_ | refine wkd ?_)) | refine kcc rfl (fun hc => ?_) (fun hc => ?_))
  · have hl : l = [] := by simpa using hb hc
    subst hl
    refine Fin.wk (Wk.own 2 rfl 3 1 (.push rfl rfl)) ?_
    exact Fin.q Try.results17 (.cons (.tmp rfl) .nil) [0]
  · exact Fin.q Try.results17 (.cons (.tmp rfl) .nil) [0]
end Go.Proofs.Ytmljglphegeilaa


namespace Go.Proofs.Ytmljglphegeilaa
set_option linter.unusedVariables false
set_option linter.unusedSimpArgs false
set_option linter.unnecessarySimpa false
open Go.RowKit Go.ChangeShapes Go.WideShapes
def sI (x : Int) : Prop := -9223372036854775808 ≤ x ∧ x ≤ 9223372036854775807
def tB (x : Bool) : List Tr := [.v (.bool x)]
def b1 {α : Type} (_ : α) : Nat := 1
def sL {α : Type} (s : α → Prop) (k : Nat) (l : List α) : Prop := l.length * k ≤ reachBytes ∧ ∀ a ∈ l, s a
def bL {α : Type} (b : α → Nat) (l : List α) : Nat := (l.map b).sum + 1
def tL {α : Type} (f : α → List Tr) (l : List α) : List Tr := [.lst (l.map f)]
section
variable {H : Type} {enc : TypeId × Value → H} {W : World}
theorem o_int : Opens enc Try.prog W 3 tI sI b1 := Opens.map (Opens.int Try.underlying3) id (fun _ => rfl) (fun _ h => i64_wf h) (fun _ => Nat.le_refl _)
theorem o_ints : Opens enc Try.prog W 22 (tL tI) (sL sI 8) (bL b1) := Opens.slice Try.underlying22 (by kernel_rfl) (by kernel_rfl) (fun _ => rfl) o_int
end
structure DRef where
  index : Int
  tag : Int
  deriving DecidableEq, Inhabited
def tRf (x : DRef) : List Tr := tI x.index ++ tI x.tag
structure DSlot where
  index : Int
  tag : Int
  deriving DecidableEq, Inhabited
structure DOld where
  ref : DRef
  stamp : Int
  deriving DecidableEq, Inhabited
def tOd (x : DOld) : List Tr := tRf x.ref ++ tI x.stamp
structure DCase where
  dir : Int
  handle : Int
  value : Int
  deriving DecidableEq, Inhabited
def tCs (x : DCase) : List Tr := tI x.dir ++ tI x.handle ++ tI x.value
structure DReq where
  kind : Int
  arg : Int
  value : Int
  dflt : Bool
  cases : List DCase
  deriving DecidableEq, Inhabited
def tRq (x : DReq) : List Tr := tI x.kind ++ tI x.arg ++ tI x.value ++ tB x.dflt ++ tL tCs x.cases
structure DCells where
  cap : Int
  list : List Int
  done : List Rst
  deriving DecidableEq, Inhabited
structure DSpan where
  thread : Int
  seq : Int
  beg : Int
  fin : Int
  deriving DecidableEq, Inhabited
structure DTold where
  thread : Int
  result : Rst
  deriving DecidableEq, Inhabited
structure DWait where
  on : Bool
  ticket : Int
  seq : Int
  cases : List DCase
  deriving DecidableEq, Inhabited
structure DChan where
  gen : Int
  cap : Int
  used : Bool
  closed : Bool
  buf : List Int
  deriving DecidableEq, Inhabited
structure DOp where
  thread : Int
  seq : Int
  phase : Int
  req : DReq
  deriving DecidableEq, Inhabited
def tOp (x : DOp) : List Tr := tI x.thread ++ tI x.seq ++ tI x.phase ++ tRq x.req
structure DNote where
  kind : Int
  thread : Int
  seq : Int
  time : Int
  req : DReq
  result : Rst
  deriving DecidableEq, Inhabited
structure DTurn where
  time : Int
  thread : Int
  ops : List DOp
  deriving DecidableEq, Inhabited
structure DHall where
  ticket : Int
  chans : List DChan
  waits : List DWait
  done : List Rst
  deriving DecidableEq, Inhabited
structure DConf where
  kind : Int
  threads : Int
  chans : Int
  cap : Int
  nodes : Int
  retire : Int
  patience : Int
  tags : Int
  seqs : Int
  gens : Int
  start : List Int
  deriving DecidableEq, Inhabited
structure DPool where
  own : DRef
  free : List DSlot
  old : List DOld
  spent : Int
  deriving DecidableEq, Inhabited
structure DPump where
  on : Bool
  shut : Bool
  over : Bool
  inn : Int
  outs : List Int
  at_ : Int
  value : Int
  deriving DecidableEq, Inhabited
end Go.Proofs.Ytmljglphegeilaa


namespace Go.Proofs.Ytmljglphegeilaa
set_option linter.unusedVariables false
set_option linter.unusedSimpArgs false
set_option linter.unnecessarySimpa false
open Go.RowKit
section
variable {P : Program} {w : World}
theorem run_copy_any {dT sT ty e E : TypeId} (hu : P.underlying dT = some (.slice e)) (hI : (P.info? e).map (·.size) = some 1) {sa : Option Addr} {n c : Nat} {xs : List Value} (hown : (Res.row sa n c E 1 xs).holds 0 w) {off q cq : Nat} (hoq : off + q ≤ n)
    {da : Option Addr} (hda : q ≠ 0 → da = some ((adr sa).add off)) {xa : Option Addr} {xc : Nat} {ys : List Value} (hr : Rs w 1 xa ys.length xc ys) (h1 : ∀ u ∈ ys, u.oneCell' = true) (hle : ys.length ≤ q) :
    ∃ w', (Builtin.copy_ #[dT, sT] ty #[.slice da q cq, .slice xa ys.length xc]).run P w = .ok (goInt ys.length) w' ∧ (Res.row sa n c E 1 (xs.take off ++ ys ++ xs.drop (off + ys.length))).holds 0 w' ∧ w.grownBy w' (if c = 0 then none else sa.map (·.block)) := by
  by_cases hy : ys = []
  · subst hy
    refine ⟨w, run_copy_none w dT sT ty e da xa q cq 0 xc hu hI (Nat.zero_min q), ?_, ⟨rfl, rfl, rfl, Nat.le_refl _, fun _ _ _ => rfl⟩⟩
    simpa using hown
  have hpos : 0 < ys.length := List.length_pos_iff.2 hy
  rcases hown with ⟨_, hn0, _⟩ | ⟨hcp, hown⟩
  · omega
  have hc0 : c ≠ 0 := by omega
  rcases hown.2 with ⟨he, hn0⟩ | ⟨g, cap, cur, he, hbg, hg, hnc, hcm, hcs, htake⟩
  · omega
  simp only [Value.slice.injEq] at he
  obtain ⟨rfl, _, rfl⟩ := he
  have hsz : n * 1 ≤ cur.size := by rw [hcs]; exact Nat.mul_le_mul_right _ hnc
  have hxl := hown.1
  have hst := run_storeCells_at P g off E ys 0 cur w hg (by omega) h1
  simp only [Nat.add_zero] at hst
  have hadd : (adr (some ⟨g, 0, none⟩)).add off = ⟨g, off, none⟩ := by
    show (⟨g, 0, none⟩ : Addr).add off = _
    rw [add_at]; simp
  rw [hadd] at hda
  obtain rfl := hda (by omega)
  have hxa : ∃ a, xa = some a := by
    cases xa with
    | none => have := (hr.none rfl).1; omega
    | some a => exact ⟨a, rfl⟩
  obtain ⟨a, rfl⟩ := hxa
  have hld := run_loadCells_list (P := P) (w := w) a ys (fun j u hj => hr.cells j u hj)
  have hxs : xs = cur.toList.take (n * 1) := htake.symm
  have hrow : (w.setRow g (cur.toList.take off ++ ys ++ cur.toList.drop (off + ys.length)).toArray).ownsRow 0 E 1 (.slice (some ⟨g, 0, none⟩) n c) n (xs.take off ++ ys ++ xs.drop (off + ys.length)) := by
    refine ⟨by simp only [List.length_append, List.length_take, List.length_drop]; omega, .inr ⟨g, c, _, rfl, hbg, setRow_heap w g cur _ E _ hg, hnc, hcm, ?_, ?_⟩⟩
    · simp only [List.size_toArray, List.length_append, List.length_take, List.length_drop, Array.length_toList]
      omega
    · rw [hxs]
      apply List.ext_getElem?
      intro i
      simp only [List.getElem?_take, List.getElem?_append, List.length_append, List.length_take, List.getElem?_drop, Array.length_toList]
      have e1 : min off cur.size = off := by omega
      have e2 : min off (min (n * 1) cur.size) = off := by omega
      rw [e1, e2]
      repeat' split
      all_goals first | rfl | (exfalso; omega) | (congr 1; omega)
  refine ⟨w.setRow g (cur.toList.take off ++ ys ++ cur.toList.drop (off + ys.length)).toArray, ?_, .inr ⟨hcp, hrow⟩, ⟨rfl, rfl, rfl, by simp, fun k _ hk => setRow_other w g k _ (fun e => hk (by simp [e, hc0]))⟩⟩
  have hmin : Nat.min ys.length q = ys.length := Nat.min_eq_left hle
  cases hq : P.info? e with
  | none => simp [hq] at hI
  | some i =>
    have hi : i.size = 1 := by simpa [hq] using hI
    simp [Builtin.copy_, run_underlying hu, Builtin.lenOf, Builtin.firstCells, sizeOf, typeInfo, hq, hi, hmin, hld, hst]
end
section
variable {P : Program} {ops : Array Oper} {Q : QS} {rest : List Oper} {o : Oper} {n : Fr} {T : Nat → AV} {heap : List Ob} {d : Nat}
theorem A_copy (hw : wantedA n T ops o = true) (hd : o.dst = some d) {s x : Operand} {t t2 : TypeId} (ho : o.op = .call { callee := .builtin .copy, args := #[s, x], argTypes := #[t, t2] }) {e : TypeId} (ht : P.underlying t = some (.slice e)) {z : Option Value} {bytes : Nat} (hI : (P.info? e).map (fun i => (i.zero, i.size, i.bytes)) = some (z, 1, bytes))
    {i k' off m : Nat} (hs : evA n T s = .sub i k' off m) {E : TypeId} {els : List (List Tr)} (hi : heap[i]? = some (.row k' E 1 els)) (hm : off + m ≤ els.length) {news : List (List Tr)} (hx : Rd heap 1 (evA n T x) news) (hle : news.length ≤ m)
    {els' : List (List Tr)} (he : els.take off ++ news ++ els.drop (off + news.length) = els') {heap' : List Ob} (hh : heap.set i (.row k' E 1 els') = heap') {q : Nat} (hq : news.length = q) (k : AL P ops Q rest n (pu T d (.t (.v (.int .i64 (q : Int))))) heap') : AL P ops Q (o :: rest) n T heap := by
  subst he hh hq
  refine AL.act hw hd (fun en a w ρ Z Y hR => ?_) k
  have hsz : (P.info? e).map (·.size) = some 1 := by
    cases hq : P.info? e with
    | none => rw [hq] at hI; simp at hI
    | some i => rw [hq] at hI; simp at hI; simp [hI.2.1]
  have hrep := hR.ok.rep
  obtain ⟨h1, xs, h2, h3, h4⟩ := hrep.row hi
  obtain ⟨xa, xc, ys, g1, g2, g3⟩ := hx.open hrep (hR.eval x)
  have hyl : ys.length = news.length := by have := g3.len; omega
  have hv := hR.eval s
  rw [hs] at hv
  generalize hax : a.eval s = vx at hv
  cases hv with
  | sub hk hn hmx h0 ha =>
  rename_i da cq
  rw [h1] at ha
  obtain ⟨w', r1, r2, r3⟩ := run_copy_any (P := P) (sT := t2) (ty := o.type) (cq := cq) ht hsz h3 hm (fun hq => by simpa using ha hq) (by rw [hyl]; exact g2) g3.one (by omega)
  have hblk : (Ob.row k' E 1 els).blk ρ i = (if (ρ i k').c = 0 then none else (ρ i k').a.map (·.block)) := rfl
  have hsame : ∀ b', b' < w.heap.size → (Ob.row k' E 1 els).blk ρ i ≠ some b' → w'.heap[b']? = w.heap[b']? := fun b' hb' hne => r3.block b' hb' (fun e => hne (by rw [hblk, e]))
  have hz : ∀ b, Z b → Z b ∧ w'.heap[b]? = w.heap[b]? := fun b hb => ⟨hb, hsame b (hrep.ylt b (hrep.zy b hb)) (hrep.notin hi (hrep.zy b hb))⟩
  have hval : ∀ x v, Val (Kn heap) ρ w Z Y x v → Val (Kn (heap.set i (.row k' E 1 (els.take off ++ news ++ els.drop (off + news.length))))) ρ w' Z Y x v := fun x v hv =>
    hrep.val (fun j k hj => ⟨hj.set hi (by exact Nat.le_refl _), rfl⟩) (fun _ h => h) (fun b' hb' => ⟨hb', hsame b' (hrep.ylt b' hb') (hrep.notin hi hb')⟩) hv
  have hlen : (els.take off ++ news ++ els.drop (off + news.length)).length = els.length := by simp only [List.length_append, List.length_take, List.length_drop]; omega
  have hel : Elems (Frz w' Z) 1 (els.take off ++ news ++ els.drop (off + news.length)) (xs.take off ++ ys ++ xs.drop (off + ys.length)) := by
    have e1 := ((h2.take off).append g3).append (h2.drop (off + news.length))
    rw [Nat.mul_one, Nat.mul_one, ← hyl] at e1
    rw [← hyl]
    exact e1.mono fun _ _ h => h.mono hz
  refine ⟨.int .i64 (news.length : Int), w', ρ, Z, Y, ?_, hR.ok.turn hi (Nat.le_refl _) (fun _ _ _ => rfl) ⟨r3.os, r3.tape, r3.output⟩ r3.size hsame ⟨h1, _, hel, by rw [hlen]; exact r2⟩ (fun b' hb' => .inl hb'), hval, .t (.v rfl)⟩
  unfold execOp
  rw [hyl] at r1
  simp only [ho, resolve, invoke, builtin, Sem.run_bind, Sem.run_pure, Result.andThen_ok, List.map_toArray, List.map_cons, List.map_nil, hax, g1, r1, goInt]
def isNilA : AV → Option Bool
  | .ptr _ _ => some false
  | .rp _ _ _ _ => some false
  | .lp _ => some false
  | .t (.v (.pointer none)) => some true
  | _ => none
theorem isNilA_open {Kn : Nat → Nat → Prop} {ρ : Rho} {w : World} {Z Y : Nat → Prop} {x : AV} {b : Bool} (h : isNilA x = some b) {v : Value} (hv : Val Kn ρ w Z Y x v) : ∃ p, v = .pointer p ∧ p.isNone = b := by
  cases hv with
  | ptr hk ha => simp [isNilA] at h; exact ⟨_, rfl, h ▸ rfl⟩
  | rp hk => simp [isNilA] at h; exact ⟨_, rfl, h ▸ rfl⟩
  | lp => simp [isNilA] at h; exact ⟨_, rfl, h ▸ rfl⟩
  | t h' => cases h' with
    | v hx =>
      cases v <;> simp [isNilA] at h
      rename_i p
      cases p <;> simp [isNilA] at h
      exact ⟨none, rfl, h ▸ rfl⟩
    | lst => simp [isNilA] at h
  | _ => simp [isNilA] at h
theorem guard_ptr {P : Program} {op : BinOp} {xt : TypeId} {x y : Operand} {a b : Option Addr} {w : World} : (eqGuard op xt x y (.pointer a) (.pointer b)).run P w = .ok () w := by
  unfold eqGuard
  cases op <;> simp
theorem run_ptr_nil0 {P : Program} {t e : TypeId} (ht : P.underlying t = some (.pointer e)) (p : Option Addr) (w : World) (d : Nat) : (Op.equalIn (d + 1) t (.pointer p) (.pointer none)).run P w = .ok p.isNone w := by
  cases p <;> simp [Op.equalIn, run_underlying ht, Result.andThen]
theorem run_ptr_nil {P : Program} {t e : TypeId} (ht : P.underlying t = some (.pointer e)) (p : Option Addr) (w : World) : (Op.equal t (.pointer p) (.pointer none)).run P w = .ok p.isNone w := run_ptr_nil0 ht p w 9999
theorem A_pnil (hw : wantedA n T ops o = true) (hd : o.dst = some d) {op : BinOp} {t yt : TypeId} {x : Operand} (ho : o.op = .binOp op t x (.const (.pointer none)) yt) {e : TypeId} (ht : P.underlying t = some (.pointer e)) {b : Bool} (hx : isNilA (evA n T x) = some b) {c : Bool} (hc : (op = .eql ∧ b = c) ∨ (op = .neq ∧ (!b) = c))
    (k : AL P ops Q rest n (pu T d (.t (.v (.bool c)))) heap) : AL P ops Q (o :: rest) n T heap := by
  refine AL.val hw hd (fun en a w ρ Z Y hR => ?_) k
  obtain ⟨p, h1, h2⟩ := isNilA_open hx (hR.eval x)
  refine ⟨.bool c, ?_, .t (.v rfl)⟩
  refine val_of (s := do eqGuard op t x (.const (.pointer none)) (a.eval x) (a.eval (.const (.pointer none))); binOp op t (a.eval x) (a.eval (.const (.pointer none)))) (by unfold execOp; rw [ho]) ?_
  rw [h1]
  show (do eqGuard op t x (.const (.pointer none)) (.pointer p) (.pointer none); binOp op t (.pointer p) (.pointer none) : Sem Value).run P w = _
  simp only [Sem.run_bind, guard_ptr, Result.andThen_ok]
  rcases hc with ⟨rfl, rfl⟩ | ⟨rfl, rfl⟩
  · simp only [binOp, Sem.run_bind, run_ptr_nil ht, Result.andThen_ok, Sem.run_pure, h2]
  · simp only [binOp, Sem.run_bind, run_ptr_nil ht, Result.andThen_ok, Sem.run_pure, h2]
theorem nil_len {Kn : Nat → Nat → Prop} {ρ : Rho} {w : World} {Z Y : Nat → Prop} {x : AV} {m c : Nat} (hx : lenA x = some m) (hv : Val Kn ρ w Z Y x (.slice none m c)) : m = 0 := by
  generalize hq : Value.slice none m c = q at hv
  cases hv <;> simp [lenA] at hx
  · rename_i x h'
    cases x with
    | v => cases hx
    | lst els =>
      obtain ⟨a', c', s', xs, e1, h2, _, _⟩ := h'.open
      rw [← hq] at e1
      simp only [Value.slice.injEq] at e1
      obtain ⟨rfl, e2, rfl⟩ := e1
      rw [e2]; exact (h2.none rfl).1
  · omega
  · rename_i hr hz hn he
    simp only [Value.slice.injEq] at hq
    obtain ⟨rfl, rfl, rfl⟩ := hq
    exact (hr.none rfl).1
  · rename_i i k' hk hc h0
    simp only [Value.slice.injEq] at hq
    have := h0 hq.1.symm
    omega
  · rename_i hn hmx h0 ha
    simp only [Value.slice.injEq] at hq
    obtain ⟨rfl, rfl, rfl⟩ := hq
    exact (h0 rfl).1
theorem A_snil (hw : wantedA n T ops o = true) (hd : o.dst = some d) {op : BinOp} {t yt : TypeId} {x : Operand} {n' c' : Nat} (ho : o.op = .binOp op t x (.const (.slice none n' c')) yt) {e : TypeId} (ht : P.underlying t = some (.slice e)) {m : Nat} (hx : lenA (evA n T x) = some m) (hm : 0 < m) {c : Bool} (hc : (op = .eql ∧ c = false) ∨ (op = .neq ∧ c = true))
    (k : AL P ops Q rest n (pu T d (.t (.v (.bool c)))) heap) : AL P ops Q (o :: rest) n T heap := by
  refine AL.val hw hd (fun en a w ρ Z Y hR => ?_) k
  obtain ⟨sa, c2, h1⟩ := lenA_open hx (hR.eval x)
  have hsa : sa.isNone = false := by
    cases sa with
    | some a => rfl
    | none => have hv := hR.eval x; rw [h1] at hv; have := nil_len hx hv; omega
  refine ⟨.bool c, ?_, .t (.v rfl)⟩
  refine val_of (s := do eqGuard op t x (.const (.slice none n' c')) (a.eval x) (a.eval (.const (.slice none n' c'))); binOp op t (a.eval x) (a.eval (.const (.slice none n' c')))) (by unfold execOp; rw [ho]) ?_
  rw [h1]
  show (do eqGuard op t x (.const (.slice none n' c')) (.slice sa m c2) (.slice none n' c'); binOp op t (.slice sa m c2) (.slice none n' c') : Sem Value).run P w = _
  simp only [Sem.run_bind, guard_slice, Result.andThen_ok]
  rcases hc with ⟨rfl, rfl⟩ | ⟨rfl, rfl⟩
  · rw [Lib.run_eql_slice_nil w t e sa m c2 n' c' ht, hsa]
  · rw [run_neq_slice_nil_any w t e sa m c2 n' c' ht, hsa]; rfl
theorem R_pnil {F : List Dl → (Nat → AV) → List Ob → Prop} {acc : List Dl} (hw : wantedA n T ops o = true) (hd : o.dst = some d) {op : BinOp} {t yt : TypeId} {x : Operand} (ho : o.op = .binOp op t x (.const (.pointer none)) yt) {e : TypeId} (ht : P.underlying t = some (.pointer e)) {b : Bool} (hx : isNilA (evA n T x) = some b) {c : Bool} (hc : (op = .eql ∧ b = c) ∨ (op = .neq ∧ (!b) = c)) (k : RG P ops n F rest (acc ++ [⟨some d, .t (.v (.bool c)), [], []⟩]) (pu T d (.t (.v (.bool c)))) heap) : RG P ops n F (o :: rest) acc T heap :=
  RG.cons hd.symm (fun T' h' hT hH hlen_ => A_pnil (by rw [wanted_eqA hT]; exact hw) hd ho ht (by rw [ev_eq hT (by simp [ho, Op.operands, Call.operands])]; exact hx) hc (AL.nil ⟨rfl, rfl, rfl⟩)) rfl rfl k
theorem R_snil {F : List Dl → (Nat → AV) → List Ob → Prop} {acc : List Dl} (hw : wantedA n T ops o = true) (hd : o.dst = some d) {op : BinOp} {t yt : TypeId} {x : Operand} {n' c' : Nat} (ho : o.op = .binOp op t x (.const (.slice none n' c')) yt) {e : TypeId} (ht : P.underlying t = some (.slice e)) {m : Nat} (hx : lenA (evA n T x) = some m) (hm : 0 < m) {c : Bool} (hc : (op = .eql ∧ c = false) ∨ (op = .neq ∧ c = true)) (k : RG P ops n F rest (acc ++ [⟨some d, .t (.v (.bool c)), [], []⟩]) (pu T d (.t (.v (.bool c)))) heap) : RG P ops n F (o :: rest) acc T heap :=
  RG.cons hd.symm (fun T' h' hT hH hlen_ => A_snil (by rw [wanted_eqA hT]; exact hw) hd ho ht (by rw [ev_eq hT (by simp [ho, Op.operands, Call.operands])]; exact hx) hm hc (AL.nil ⟨rfl, rfl, rfl⟩)) rfl rfl k
end
end Go.Proofs.Ytmljglphegeilaa


namespace Go.Proofs.Ytmljglphegeilaa
set_option linter.unusedVariables false
set_option linter.unusedSimpArgs false
set_option linter.unnecessarySimpa false
open Go.RowKit
theorem fill_mono {f g : Nat → Option (Nat × Nat)} (h : ∀ i x, g i = some x → f i = some x) : ∀ (l : List (Nat × Value)) (cs r : Array Value), Instr.fill g cs l = some r → Instr.fill f cs l = some r
  | [], cs, r, hr => hr
  | (i, v) :: l, cs, r, hr => by
    unfold Instr.fill at hr ⊢
    cases hg : g i with
    | none => rw [hg] at hr; cases hr
    | some x =>
      obtain ⟨off, size⟩ := x
      rw [hg] at hr
      rw [h i _ hg]
      dsimp only at hr ⊢
      split at hr
      · cases hr
      · rename_i hc
        rw [if_neg hc]
        exact fill_mono h l _ r hr
def arrOk (s : Nat) : Nat → List (Nat × Nat) → Bool
  | _, [] => true
  | i, p :: l => Nat.beq p.1 (i * s) && Nat.beq p.2 s && arrOk s (i + 1) l
theorem arrOk_get {s : Nat} : ∀ {l : List (Nat × Nat)} {i j : Nat} {x : Nat × Nat}, arrOk s i l = true → l[j]? = some x → x = ((i + j) * s, s)
  | [], i, j, x, _, hj => by simp at hj
  | p :: l, i, j, x, h, hj => by
    unfold arrOk at h
    simp only [Bool.and_eq_true, Nat.beq_eq_true_eq] at h
    obtain ⟨⟨h1, h2⟩, h3⟩ := h
    cases j with
    | zero => simp at hj; subst hj; exact Prod.ext (by simpa using Nat.eq_of_beq_eq_true h1) (Nat.eq_of_beq_eq_true h2)
    | succ j =>
      rw [List.getElem?_cons_succ] at hj
      have := arrOk_get h3 hj
      rw [this]; congr 2; omega
section
variable {P : Program} {ops : Array Oper} {Q : QS} {rest : List Oper} {o : Oper} {n : Fr} {T : Nat → AV} {heap : List Ob} {d : Nat}
theorem A_buildA (hw : wantedA n T ops o = true) (hd : o.dst = some d) {t : TypeId} {parts : Array (Nat × Operand)} (ho : o.op = .build t parts) {len : Nat} {el : TypeId} (hu : P.underlying t = some (.array len el)) {z : Value} {size bytes : Nat} (hI : (P.info? t).map (fun i => (i.zero, i.size, i.bytes)) = some (some z, size, bytes))
    {ez : Option Value} {es eb : Nat} (hE : (P.info? el).map (fun i => (i.zero, i.size, i.bytes)) = some (ez, es, eb)) {places : List (Nat × Nat)} (hp : arrOk es 0 places = true) {zs : List AV} (hz : (ofConst z).flat = some zs) {qs : List (Nat × List AV)} (hq : Parts n T parts.toList qs) {cs : List AV} (hf : fillA places zs qs = some cs)
    (k : AL P ops Q rest n (pu T d (.agg cs)) heap) : AL P ops Q (o :: rest) n T heap := by
  refine AL.val hw hd (fun en a w ρ Z Y hR => ?_) k
  obtain ⟨us, u1, u2, u3⟩ := (val_ofConst (Kn := Kn heap) (ρ := ρ) (w := w) (Z := Z) (Y := Y) z).flat hz
  obtain ⟨vs, q1, q2, q3⟩ := fillA_open hR hq hf u2 u3
  refine ⟨.agg vs.toArray, val_of (s := Instr.build t (parts.map (fun (i, x) => (i, a.eval x)))) (by unfold execOp; rw [ho]) ?_, .agg q2.len q3 q2.at_⟩
  obtain ⟨i, hi, hz', _, _⟩ := info_of hI
  have e2 : (zeroValue t).run P w = .ok z w := by simp [zeroValue, typeInfo, hi, hz']
  have e3 : (sizeOf el).run P w = .ok es w := run_size hE
  have e4 := fill_mono (f := fun i => some (i * es, es)) (fun i x hx => by
    have := arrOk_get hp (j := i) (x := x) (by simpa using hx)
    rw [this]; simp) _ _ _ (fill_of _ _ _ q1)
  have e5 : (parts.map (fun (i, x) => (i, a.eval x))).toList = parts.toList.map (fun x => (x.1, a.eval x.2)) := by simp
  simp only [Instr.build, Sem.run_bind, e2, Result.andThen_ok, run_underlying hu, e3, u1, e5, e4, Sem.run_pure]
theorem A_index (hw : wantedA n T ops o = true) (hd : o.dst = some d) {t : TypeId} {x ix : Operand} (ho : o.op = .index t x ix) {len : Nat} {el : TypeId} (hu : P.underlying t = some (.array len el)) {ds : TypeDesc} (hds : P.underlying el = some ds) (ha : (match ds with | .struct _ | .array _ _ => true | _ => false) = false) {ez : Option Value} {eb : Nat} (hE : (P.info? el).map (fun i => (i.zero, i.size, i.bytes)) = some (ez, 1, eb))
    {kd : IntKind} {I : Int} (hix : evA n T ix = .t (.v (.int kd I))) (h0I : 0 ≤ I) {J : Nat} (hJ : I.toNat = J) (hlt : J < len) {l : List AV} (hx : evA n T x = .agg l) {u : AV} (hc : l[J]? = some u) (k : AL P ops Q rest n (pu T d u) heap) : AL P ops Q (o :: rest) n T heap := by
  obtain rfl : I = (J : Int) := by omega
  refine AL.val hw hd (fun en a w ρ Z Y hR => ?_) k
  have hv := hR.eval x
  rw [hx] at hv
  generalize hax : a.eval x = vx at hv
  have hvi := hR.eval ix
  rw [hix] at hvi
  generalize hai : a.eval ix = vi at hvi
  cases hv with
  | @agg _ us h1 h2 h3 =>
  cases hvi with
  | t h => cases h with
    | v h =>
      have hJu : J < us.length := by have := (List.getElem?_eq_some_iff.1 hc).1; omega
      have hg : us[J]? = some us[J] := List.getElem?_eq_getElem hJu
      refine ⟨us[J], val_of (s := Instr.index t (a.eval x) (a.eval ix)) (by unfold execOp; rw [ho]) ?_, h3 J _ _ hc hg⟩
      have e3 : (sizeOf el).run P w = .ok 1 w := run_size hE
      rw [hax, hai]
      have hpart : (part el us.toArray J).run P w = .ok us[J] w := by
        have hag : (Go.isAgg el).run P w = .ok false w := by
          unfold Go.isAgg
          rw [Sem.run_bind, run_underlying hds]
          cases ds <;> simp_all [Result.andThen]
        simp [part, hag, Result.andThen, hg]
      simp only [Instr.index, asIntOf, Sem.run_bind, Sem.run_pure, Result.andThen_ok, run_underlying hu]
      rw [if_pos ⟨by omega, by omega⟩]
      simp only [Sem.run_bind, e3, Result.andThen_ok, Int.toNat_natCast, Nat.mul_one, hpart]
theorem R_buildA {F : List Dl → (Nat → AV) → List Ob → Prop} {acc : List Dl} (hw : wantedA n T ops o = true) (hd : o.dst = some d) {t : TypeId} {parts : Array (Nat × Operand)} (ho : o.op = .build t parts) {len : Nat} {el : TypeId} (hu : P.underlying t = some (.array len el)) {z : Value} {size bytes : Nat} (hI : (P.info? t).map (fun i => (i.zero, i.size, i.bytes)) = some (some z, size, bytes))
    {ez : Option Value} {es eb : Nat} (hE : (P.info? el).map (fun i => (i.zero, i.size, i.bytes)) = some (ez, es, eb)) {places : List (Nat × Nat)} (hp : arrOk es 0 places = true) {zs : List AV} (hz : (ofConst z).flat = some zs) {qs : List (Nat × List AV)} (hq : Parts n T parts.toList qs) {cs : List AV} (hf : fillA places zs qs = some cs)
    (k : RG P ops n F rest (acc ++ [⟨some d, .agg cs, [], []⟩]) (pu T d (.agg cs)) heap) : RG P ops n F (o :: rest) acc T heap :=
  RG.cons hd.symm (fun T' h' hT hH hlen_ => A_buildA (by rw [wanted_eqA hT]; exact hw) hd ho hu hI hE hp hz (Parts.agree hT (fun y hy => by rw [ho]; simpa [Op.operands] using hy) hq) hf (AL.nil ⟨rfl, rfl, rfl⟩)) rfl rfl k
theorem R_index {F : List Dl → (Nat → AV) → List Ob → Prop} {acc : List Dl} (hw : wantedA n T ops o = true) (hd : o.dst = some d) {t : TypeId} {x ix : Operand} (ho : o.op = .index t x ix) {len : Nat} {el : TypeId} (hu : P.underlying t = some (.array len el)) {ds : TypeDesc} (hds : P.underlying el = some ds) (ha : (match ds with | .struct _ | .array _ _ => true | _ => false) = false) {ez : Option Value} {eb : Nat} (hE : (P.info? el).map (fun i => (i.zero, i.size, i.bytes)) = some (ez, 1, eb))
    {kd : IntKind} {I : Int} (hix : evA n T ix = .t (.v (.int kd I))) (h0I : 0 ≤ I) {J : Nat} (hJ : I.toNat = J) (hlt : J < len) {l : List AV} (hx : evA n T x = .agg l) {u : AV} (hc : l[J]? = some u) (k : RG P ops n F rest (acc ++ [⟨some d, u, [], []⟩]) (pu T d u) heap) : RG P ops n F (o :: rest) acc T heap :=
  RG.cons hd.symm (fun T' h' hT hH hlen_ => A_index (by rw [wanted_eqA hT]; exact hw) hd ho hu hds ha hE (by rw [ev_eq hT (by simp [ho, Op.operands, Call.operands])]; exact hix) h0I hJ hlt (by rw [ev_eq hT (by simp [ho, Op.operands, Call.operands])]; exact hx) hc (AL.nil ⟨rfl, rfl, rfl⟩)) rfl rfl k
end
end Go.Proofs.Ytmljglphegeilaa


namespace Go.Proofs.Ytmljglphegeilaa
set_option linter.unusedVariables false
set_option linter.unusedSimpArgs false
set_option linter.unnecessarySimpa false
open Go.RowKit
def lookE (es : List (Int × Int)) (k : Int) : Option Int := (es.find? fun p => decide (p.1 = k)).map (·.2)
theorem findNow_es (k : Int) : ∀ (l : List MapEntry) (es : List (Int × Int)) (i : Nat), l.map (fun e => (e.key, e.val)) = es.map (fun p => (Value.int .i64 p.1, Value.int .i64 p.2)) →
    ∃ r, Instr.findNow (.int .i64) (.int .i64 k) l i = some r ∧ r.map (·.2) = (lookE es k).map (Value.int .i64)
  | [], [], i, _ => ⟨none, rfl, rfl⟩
  | [], _ :: _, _, h => by simp at h
  | _ :: _, [], _, h => by simp at h
  | e :: l, p :: es, i, h => by
    simp only [List.map_cons, List.cons.injEq, Prod.mk.injEq] at h
    obtain ⟨⟨h1, h2⟩, h3⟩ := h
    unfold Instr.findNow
    rw [h1]
    by_cases g : p.1 = k
    · have : Instr.sameNow (.int .i64) (.int .i64 k) (.int .i64 p.1) = some true := by simp [Instr.sameNow, g]
      rw [this]
      refine ⟨some (i, e.val), rfl, ?_⟩
      unfold lookE
      rw [List.find?_cons, decide_eq_true g, h2]; rfl
    · have : Instr.sameNow (.int .i64) (.int .i64 k) (.int .i64 p.1) = some false := by simp [Instr.sameNow]; omega
      rw [this]
      obtain ⟨r, q1, q2⟩ := findNow_es k l es (i + 1) h3
      refine ⟨r, q1, ?_⟩
      unfold lookE at q2 ⊢
      rw [List.find?_cons, decide_eq_false g, q2]
section
variable {P : Program} {w : World}
theorem run_checkKey_int {kt : TypeId} (hk : P.underlying kt = some (.int .i64)) (b : Bool) (d : Nat) (k : Int) : (Instr.checkKey b (d + 1) kt (.int .i64 k)).run P w = .ok () w := by
  simp [Instr.checkKey, run_underlying hk, Result.andThen]
theorem run_findKey_int {kt : TypeId} (hk : P.underlying kt = some (.int .i64)) (k : Int) {l : List MapEntry} {es : List (Int × Int)} (h : l.map (fun e => (e.key, e.val)) = es.map (fun p => (Value.int .i64 p.1, Value.int .i64 p.2))) :
    ∃ r : Option (Nat × Value), (Instr.findKey kt (.int .i64 k) l).run P w = .ok r w ∧ r.map (·.2) = (lookE es k).map (Value.int .i64) := by
  obtain ⟨r, h1, h2⟩ := findNow_es k l es 0 h
  refine ⟨r, ?_, h2⟩
  simp [Instr.findKey, run_underlying hk, Result.andThen, h1]
end
section
variable {P : Program} {ops : Array Oper} {Q : QS} {rest : List Oper} {o : Oper} {n : Fr} {T : Nat → AV} {heap : List Ob} {d : Nat}
theorem A_mkmap (hw : wantedA n T ops o = true) (hd : o.dst = some d) {t : TypeId} (ho : o.op = .makeMap t none) {heap' : List Ob} {N : Nat} (hat : AtL heap N [.mp []] heap') (k : AL P ops Q rest n (pu T d (.mv N)) heap') : AL P ops Q (o :: rest) n T heap := by
  refine AL.act hw hd (fun e a w ρ Z Y hR => ?_) k
  obtain ⟨ρ', k1, k2, k3, k4⟩ := hR.ok.push1 (o := .mp []) hat (w' := w.alloc (.map #[] 0)) (pl := ⟨some ⟨w.heap.size, 0, none⟩, 0, 0⟩) ⟨rfl, rfl, rfl⟩ (by simp) (fun b hb => heap_alloc_old w _ hb) (fun ρ' hN hρ => ⟨w.heap.size, #[], 0, by rw [hN], heap_alloc_new w _, rfl⟩) (fun b hb _ => by simp at hb; subst hb; simp)
  refine ⟨.map (some w.heap.size), _, ρ', Z, Y, ?_, k1, k2, .mv ⟨_, hat.one, Nat.le_refl _⟩ (by rw [k3])⟩
  refine val_of (s := Instr.makeMap t none) (by unfold execOp; rw [ho]; rfl) ?_
  simp [Instr.makeMap, Result.andThen]
theorem HRep.mp {w : World} {ρ : Rho} {Z Y : Nat → Prop} (h : HRep heap w ρ Z Y) {i : Nat} {es : List (Int × Int)} (hi : heap[i]? = some (.mp es)) {v : Value} (hv : Val (Kn heap) ρ w Z Y (.mv i) v) :
    ∃ b arr clock, v = .map (some b) ∧ (ρ i 0).a = some ⟨b, 0, none⟩ ∧ w.heap[b]? = some (.map arr clock) ∧ arr.toList.map (fun e => (e.key, e.val)) = es.map (fun p => (Value.int .i64 p.1, Value.int .i64 p.2)) := by
  obtain ⟨b, arr, c, h1, h2, h3⟩ := h.obs i _ hi
  cases hv with
  | mv hk ha => rw [h1] at ha; cases ha; exact ⟨_, arr, c, rfl, h1, h2, h3⟩
theorem A_lookup (hw : wantedA n T ops o = true) (hd : o.dst = some d) {t : TypeId} {m ix : Operand} (ho : o.op = .lookup t m ix true) {kt et : TypeId} (ht : P.underlying t = some (.map kt et)) (hkt : P.underlying kt = some (.int .i64)) {size bytes : Nat} (hE : (P.info? et).map (fun i => (i.zero, i.size, i.bytes)) = some (some (.int .i64 0), size, bytes))
    {i : Nat} (hm : evA n T m = .mv i) {es : List (Int × Int)} (hi : heap[i]? = some (.mp es)) {k : Int} (hix : evA n T ix = .t (.v (.int .i64 k))) {r : Option Int} (hr : lookE es k = r) {v : Int} {b : Bool} (hv : r.getD 0 = v) (hb : r.isSome = b)
    (k' : AL P ops Q rest n (pu T d (.tup [.t (.v (.int .i64 v)), .t (.v (.bool b))])) heap) : AL P ops Q (o :: rest) n T heap := by
  subst hr hv hb
  refine AL.val hw hd (fun en a w ρ Z Y hR => ?_) k'
  have h1 := hR.eval m
  rw [hm] at h1
  obtain ⟨b, arr, c, e1, e2, e3, e4⟩ := hR.ok.rep.mp hi h1
  have h2 := hR.eval ix
  rw [hix] at h2
  generalize hai : a.eval ix = vi at h2
  cases h2 with
  | t h => cases h with
    | v h =>
      obtain ⟨q, f1, f2⟩ := run_findKey_int (P := P) (w := w) hkt k e4
      obtain ⟨inf, hin, hz, _, _⟩ := info_of hE
      have hzero : (zeroValue et).run P w = .ok (.int .i64 0) w := by simp [zeroValue, typeInfo, hin, hz]
      have hget : (getObj b).run P w = .ok (.map arr c) w := by simp [getObj, Sem.run, e3]
      have hck := run_checkKey_int (P := P) (w := w) hkt arr.isEmpty 9999 k
      refine ⟨.tuple #[.int .i64 ((lookE es k).getD 0), .bool (lookE es k).isSome], val_of (s := Instr.lookup t (a.eval m) (a.eval ix) true) (by unfold execOp; rw [ho]) ?_, .tup (us := [.int .i64 ((lookE es k).getD 0), .bool (lookE es k).isSome]) rfl (fun j x u hj hu => ?_)⟩
      · rw [e1, hai]
        cases q with
        | none =>
          have hl : lookE es k = none := by cases hl : lookE es k <;> rw [hl] at f2 <;> simp at f2 <;> rfl
          simp [Instr.lookup, run_underlying ht, hget, hck, f1, hzero, Result.andThen, hl]
        | some p =>
          obtain ⟨x, hl⟩ : ∃ x, lookE es k = some x := by cases hl : lookE es k <;> rw [hl] at f2 <;> simp at f2; exact ⟨_, rfl⟩
          rw [hl] at f2
          simp at f2
          simp [Instr.lookup, run_underlying ht, hget, hck, f1, Result.andThen, hl, f2]
      · match j with
        | 0 => cases hj; cases hu; exact .t (.v rfl)
        | 1 => cases hj; cases hu; exact .t (.v rfl)
        | j + 2 => simp at hj
theorem A_mapnew (hw : wantedA n T ops o = true) (hd : o.dst = none) {t : TypeId} {m ix x : Operand} (ho : o.op = .mapUpdate t m ix x) {kt et : TypeId} (ht : P.underlying t = some (.map kt et)) (hkt : P.underlying kt = some (.int .i64))
    {i : Nat} (hm : evA n T m = .mv i) {es : List (Int × Int)} (hi : heap[i]? = some (.mp es)) {k v : Int} (hix : evA n T ix = .t (.v (.int .i64 k))) (hx : evA n T x = .t (.v (.int .i64 v))) (hr : lookE es k = none) {heap' : List Ob} (hh : heap.set i (.mp (es ++ [(k, v)])) = heap')
    (k' : AL P ops Q rest n T heap') : AL P ops Q (o :: rest) n T heap := by
  subst hh
  refine AL.unit hw hd (fun en a w ρ Z Y hR => ?_) k'
  have h1 := hR.eval m
  rw [hm] at h1
  obtain ⟨b, arr, c, e1, e2, e3, e4⟩ := hR.ok.rep.mp hi h1
  have h2 := hR.eval ix
  rw [hix] at h2
  have h3 := hR.eval x
  rw [hx] at h3
  generalize hai : a.eval ix = vi at h2
  generalize hax : a.eval x = vx at h3
  have hvi : vi = .int .i64 k := by cases h2 with | t h => cases h with | v h => rfl
  have hvx : vx = .int .i64 v := by cases h3 with | t h => cases h with | v h => rfl
  subst hvi hvx
  obtain ⟨q, f1, f2⟩ := run_findKey_int (P := P) (w := w) hkt k e4
  rw [hr] at f2
  have hq : q = none := by cases q <;> simp at f2; rfl
  subst hq
  have hget : (getObj b).run P w = .ok (.map arr c) w := by simp [getObj, Sem.run, e3]
  have hck := run_checkKey_int (P := P) (w := w) hkt false 9999 k
  have hlt : b < w.heap.size := by
    rcases Nat.lt_or_ge b w.heap.size with h | h
    · exact h
    · rw [Array.getElem?_eq_none h] at e3; cases e3
  have hblk : (Ob.mp es).blk ρ i = some b := by simp [Ob.blk, e2]
  have hset : (setObj b (.map (arr.push ⟨.int .i64 k, .int .i64 v, c⟩) (c + 1))).run P w = .ok () { w with heap := w.heap.setIfInBounds b (.map (arr.push ⟨.int .i64 k, .int .i64 v, c⟩) (c + 1)) } := by simp [setObj, Sem.run, e3]
  have hsame : ∀ b', b' < w.heap.size → (Ob.mp es).blk ρ i ≠ some b' → (w.heap.setIfInBounds b (.map (arr.push ⟨.int .i64 k, .int .i64 v, c⟩) (c + 1)))[b']? = w.heap[b']? := fun b' _ hne => by
    rw [Array.getElem?_setIfInBounds, if_neg (fun e => hne (by rw [hblk, e]))]
  have hval : ∀ x u, Val (Kn heap) ρ w Z Y x u → Val (Kn (heap.set i (.mp (es ++ [(k, v)])))) ρ { w with heap := w.heap.setIfInBounds b (.map (arr.push ⟨.int .i64 k, .int .i64 v, c⟩) (c + 1)) } Z Y x u := fun x u hu =>
    hR.ok.rep.val (fun j q hj => ⟨hj.set hi (by exact Nat.le_refl _), rfl⟩) (fun _ h => h) (fun b' hb' => ⟨hb', hsame b' (hR.ok.rep.ylt b' hb') (hR.ok.rep.notin hi hb')⟩) hu
  refine ⟨{ w with heap := w.heap.setIfInBounds b (.map (arr.push ⟨.int .i64 k, .int .i64 v, c⟩) (c + 1)) }, ρ, Z, Y, ?_, hR.ok.turn hi (Nat.le_refl _) (fun _ _ _ => rfl) ⟨rfl, rfl, rfl⟩ (by simp) hsame ⟨b, arr.push ⟨.int .i64 k, .int .i64 v, c⟩, c + 1, e2, ?_, ?_⟩ (fun b' hb' => .inl hb'), hval⟩
  · unfold execOp
    simp [ho, e1, hai, hax, Instr.mapUpdate, run_underlying ht, hget, hck, f1, hset, Result.andThen]
  · show (w.heap.setIfInBounds b _)[b]? = _
    rw [Array.getElem?_setIfInBounds, if_pos rfl, if_pos hlt]
  · rw [Array.toList_push, List.map_append, e4, List.map_append]; rfl
end
end Go.Proofs.Ytmljglphegeilaa


namespace Go.Proofs.Ytmljglphegeilaa
set_option linter.unusedVariables false
set_option linter.unusedSimpArgs false
set_option linter.unnecessarySimpa false
open Go.RowKit
section
variable {P : Program} {ops : Array Oper} {Q : QS} {rest : List Oper} {o : Oper} {n : Fr} {T : Nat → AV} {heap : List Ob} {d : Nat}
theorem run_append_full (t ot : TypeId) {e : TypeId} (ht : P.underlying t = some (.slice e)) {inf : TypeInfo} (hin : P.info? e = some inf) {z : Value} (hz : inf.zero = some z) (hzs : z.cells.size = inf.size)
    {w : World} {sa : Option Addr} {n : Nat} {xs : List Value} (hrs : Rs w inf.size sa n n xs)
    (xa : Option Addr) (m xc : Nat) {news : List Value} (hr : Rs w inf.size xa m xc news) (hm : 0 < m) (b1 : n + m ≤ maxLen) (b2 : (n + m) * inf.bytes ≤ 140737488355328) :
    ∃ a' c' w', (Builtin.append_ #[t, t] ot #[.slice sa n n, .slice xa m xc]).run P w = .ok (.slice a' (n + m) c') w' ∧ (Res.row a' (n + m) c' e inf.size (xs ++ news)).holds 0 w' ∧ w.grownBy w' none ∧
      (∀ k, (Res.row a' (n + m) c' e inf.size (xs ++ news)).blk = some k → w.heap.size ≤ k ∧ k < w'.heap.size) := by
  have hlen : (xs ++ news).length = (n + m) * inf.size := by rw [List.length_append, hrs.len, hr.len, Nat.add_mul]
  have hsmall : n + m ≤ 9223372036854775807 := by simp only [maxLen] at b1; omega
  cases xa with
  | none => exact absurd (hr.none rfl).1 (by omega)
  | some ax =>
    have hnews : ∀ j u, news[j]? = some u → w.cell? (ax.add j) = some u := hr.cells
    have grown : ∀ (old : Nat), old < n + m → ∀ (row : Option Nat),
        (Res.row (some ⟨w.heap.size, 0, none⟩) (n + m) (grownCap w (n + m) old e) e inf.size (xs ++ news)).holds 0 (w.drew.alloc (.cells (xs.toArray ++ news.toArray ++ Builtin.zeroCells z.cells (grownCap w (n + m) old e - (n + m))) e)) ∧
        w.grownBy (w.drew.alloc (.cells (xs.toArray ++ news.toArray ++ Builtin.zeroCells z.cells (grownCap w (n + m) old e - (n + m))) e)) row := by
      intro old ho row
      have hge := grownCap_ge w (n + m) old e
      have hcm : grownCap w (n + m) old e ≤ maxLen := grownCap_le_maxLen w (n + m) old e b1
      refine ⟨.inr ⟨by omega, hlen, .inr ⟨w.heap.size, _, _, rfl, Nat.zero_le _, heap_alloc_new w.drew _, hge, hcm, ?_, ?_⟩⟩, ⟨rfl, rfl, rfl, by simp, fun k hk _ => heap_alloc_old w.drew _ hk⟩⟩
      · simp only [Array.size_append, List.size_toArray, size_zeroCells, hzs, hrs.len, hr.len, ← Nat.add_mul]
        congr 1
        omega
      · simp only [Array.toList_append, List.append_assoc]
        rw [← List.append_assoc, ← hlen]
        exact List.take_left
    have fresh : ∀ (o : Obj) (nn cc : Nat) (yy : List Value) (k : Nat), (Res.row (some ⟨w.heap.size, 0, none⟩) nn cc e inf.size yy).blk = some k → w.heap.size ≤ k ∧ k < (w.drew.alloc o).heap.size := by
      intro o nn cc yy k hk
      simp [Res.blk] at hk
      obtain ⟨_, hk⟩ := hk
      subst hk
      exact ⟨Nat.le_refl _, by simp⟩
    cases sa with
    | none =>
      obtain ⟨rfl, -⟩ := hrs.none rfl
      have hxs : xs = [] := List.eq_nil_of_length_eq_zero (by simpa using hrs.len)
      subst hxs
      have hrun := run_append_nil (P := P) w t ot e inf z ht hin hz ax m xc news hr.len hnews (by omega) (by omega) (by have hb := b2; simp only [Nat.zero_add] at hb; omega)
      have hgr := grown 0 (by omega) none
      simp only [Nat.zero_add, List.nil_append, Array.empty_append] at hgr ⊢
      exact ⟨_, _, _, hrun, hgr.1, hgr.2, fun k hk => fresh _ _ _ _ k hk⟩
    | some ab =>
      have hrun := run_append_grow (P := P) w t ot e inf z ht hin hz ab n n xs hrs.len hrs.cells ax m xc news hr.len hnews (by omega) (by omega) (growslice_fits (by omega) b2)
      have hgr := grown n (by omega) none
      exact ⟨_, _, _, hrun, hgr.1, hgr.2, fun k hk => fresh _ _ _ _ k hk⟩
theorem A_append_cl (hw : wantedA n T ops o = true) (hd : o.dst = some d) {s x : Operand} {t : TypeId} (ho : o.op = .call { callee := .builtin .append, args := #[s, x], argTypes := #[t, t] })
    {e : TypeId} (ht : P.underlying t = some (.slice e)) {size bytes : Nat} (hI : ∃ z b, (P.info? e).map (fun i => (i.zero, i.size, i.bytes)) = some (some z, size, b) ∧ z.cells.size = size ∧ b = bytes)
    {els : List (List Tr)} (hs : evA n T s = .cl els) {m : Nat} (hl : els.length = m) (hz : ∀ cs ∈ els, cs.length = size) {news : List (List Tr)} (hx : Rd heap size (evA n T x) news) (h0 : 0 < news.length) (b1 : m + news.length ≤ maxLen) (b2 : (m + news.length) * bytes ≤ 140737488355328) {els' : List (List Tr)} (he : els ++ news = els')
    {heap' : List Ob} {N : Nat} (hat : AtL heap N [.row 0 e size els'] heap') {m' : Nat} (hm' : m + news.length = m') (k : AL P ops Q rest n (pu T d (.sl N 0 m')) heap') : AL P ops Q (o :: rest) n T heap := by
  subst hm' he hl
  obtain ⟨z, b, hI, hzs, rfl⟩ := hI
  refine AL.act hw hd (fun en a w ρ Z Y hR => ?_) k
  obtain ⟨inf, hin, hzz, hsz, hby⟩ := info_of hI
  subst hsz hby
  have hrep := hR.ok.rep
  obtain ⟨xa, xc, ys, g1, g2, g3⟩ := hx.open hrep (hR.eval x)
  have hv := hR.eval s
  rw [hs] at hv
  generalize hax : a.eval s = vx at hv
  cases hv with
  | @cl _ sa n0 sz xs hr hzb hn hel =>
  subst hn
  obtain ⟨q1, q2⟩ := resize hz hr hel
  obtain ⟨a', c', w', r1, r2, r3, r4⟩ := run_append_full (P := P) t o.type ht hin hzz hzs q1 xa news.length xc g2 h0 b1 b2
  have hsame : ∀ b, b < w.heap.size → w'.heap[b]? = w.heap[b]? := fun b hb => r3.block b hb (by simp)
  have hzk : ∀ b, Z b → Z b ∧ w'.heap[b]? = w.heap[b]? := fun b hb => ⟨hb, hsame b (hrep.ylt b (hrep.zy b hb))⟩
  have hcap := (rs_of_holds r2).cap
  have hall := (q2.append g3).mono fun _ _ h => Frz.mono hzk h
  have hlen : (els ++ news).length = els.length + news.length := List.length_append
  obtain ⟨ρ', k1, k2, k3, k4⟩ := hR.ok.push1 (o := .row 0 e inf.size (els ++ news)) hat (w' := w') (pl := ⟨a', c', inf.size⟩) ⟨r3.os, r3.tape, r3.output⟩ r3.size hsame
    (fun ρ' hN hρ => ⟨by rw [hN], _, hall, by rw [hN, hlen]; exact r2⟩)
    (fun b _ hb => r4 b (by simpa [Ob.blk, Res.blk] using hb))
  refine ⟨.slice a' (els.length + news.length) c', w', ρ', Z, Y, ?_, k1, k2, ?_⟩
  · unfold execOp
    simp only [ho, resolve, invoke, builtin, Sem.run_bind, Sem.run_pure, Result.andThen_ok, List.map_toArray, List.map_cons, List.map_nil, hax, g1, r1]
  · have := Val.sl (Kn := Kn heap') (ρ := ρ') (w := w') (Z := Z) (Y := Y) (i := N) (k := 0) (n := els.length + news.length) ⟨_, hat.one, Nat.le_refl _⟩ (by rw [k3]; exact hcap) (by rw [k3]; exact fun e => ((rs_of_holds r2).none e).2)
    rw [k3] at this
    exact this
theorem A_clip (hw : wantedA n T ops o = true) (hd : o.dst = some d) {t : TypeId} {x hi mx : Operand} (ho : o.op = .slice t x none (some hi) (some mx)) {e : TypeId} (ht : P.underlying t = some (.slice e)) {z : Option Value} {size bytes : Nat} (hI : (P.info? e).map (fun i => (i.zero, i.size, i.bytes)) = some (z, size, bytes))
    {els : List (List Tr)} (hx : evA n T x = .t (.lst els)) (hs : ∀ cs ∈ els, cs.length = size) {kd kd' : IntKind} {m m' : Nat} (h1 : evA n T hi = .t (.v (.int kd (m : Int)))) (h2 : evA n T mx = .t (.v (.int kd' (m' : Int)))) (hm : els.length = m) (hm' : els.length = m')
    (k : AL P ops Q rest n (pu T d (.cl els)) heap) : AL P ops Q (o :: rest) n T heap := by
  subst hm hm'
  refine AL.val hw hd (fun en a w ρ Z Y hR => ?_) k
  have lv : ∀ {y : Operand} {kd : IntKind} {q : Int}, evA n T y = .t (.v (.int kd q)) → a.eval y = .int kd q := fun {y kd q} e1 => by
    have := hR.eval y
    rw [e1] at this
    generalize a.eval y = v at this
    cases this with
    | t h => cases h; rfl
  have hv := hR.eval x
  rw [hx] at hv
  generalize hax : a.eval x = vx at hv
  cases hv with
  | t hv =>
  obtain ⟨sa, c, s, xs, g1, g2, g3, g4⟩ := hv.open
  subst g1
  have g2' : Rs w s sa els.length els.length xs := ⟨Nat.le_refl _, Nat.le_trans g2.cap g2.most, fun e => ⟨(g2.none e).1, (g2.none e).1⟩, g2.len, g2.cells⟩
  obtain ⟨xs', q1, q2, q3⟩ := cut_rs (l := 0) (h := els.length) hs g2' g4 (Nat.zero_le _) (Nat.le_refl _)
  have ht' : P.underlying t = some (.slice (P.elem t)) := by rw [elem_of ht]; exact ht
  have hcap := g2.cap
  refine ⟨.slice (if els.length = 0 then sa else sa.map (·.add (0 * size))) (els.length - 0) (els.length - 0), val_of (s := Instr.sliceAt t (a.eval x) none (some (a.eval hi)) (some (a.eval mx))) (by unfold execOp; rw [ho]; rfl) ?_, ?_⟩
  · rw [hax, lv h1, lv h2, run_sliceAt_slice w t _ _ _ _ ht']
    simp [Instr.slice, Instr.sliceBounds, Instr.sliceBound, run_underlying ht, run_size hI, Result.andThen, hcap, asIntOf]
  · rw [Nat.sub_zero, List.drop_zero, List.take_length] at *
    exact .cl q1 (fun hne => by rw [(q3 hne).2]; exact g3 (q3 hne).1) rfl q2
theorem cl_one {α : Type} {f : α → List Tr} {x : α} {l : List α} : l.map f ++ [f x] = (l ++ [x]).map f := by simp
theorem A_append_clU (hw : wantedA n T ops o = true) (hd : o.dst = some d) (s x : Operand) (t : TypeId) (ho : o.op = .call { callee := .builtin .append, args := #[s, x], argTypes := #[t, t] })
    {e : TypeId} (ht : P.underlying t = some (.slice e)) {z : Value} {size bytes : Nat} (hI : (P.info? e).map (fun i => (i.zero, i.size, i.bytes)) = some (some z, size, bytes)) (hzs : z.cells.size = size)
    {els : List (List Tr)} (hs : evA n T s = .cl els) {m : Nat} (hl : els.length = m) (hz : ∀ cs ∈ els, cs.length = size) {news : List (List Tr)} (hx : Rd heap size (evA n T x) news) (h0 : 0 < news.length) (b1 : m + news.length ≤ maxLen) (b2 : (m + news.length) * bytes ≤ 140737488355328) {els' : List (List Tr)} (he : els ++ news = els')
    {heap' : List Ob} {N : Nat} (hat : AtL heap N [.row 0 e size els'] heap') {m' : Nat} (hm' : m + news.length = m') (k : AL P ops Q rest n (pu T d (.sl N 0 m')) heap') : AL P ops Q (o :: rest) n T heap :=
  A_append_cl hw hd ho ht ⟨z, bytes, hI, hzs, rfl⟩ hs hl hz hx h0 b1 b2 he hat hm' k
theorem R_append_cl {F : List Dl → (Nat → AV) → List Ob → Prop} {acc : List Dl} (hw : wantedA n T ops o = true) (hd : o.dst = some d) (s x : Operand) (t : TypeId) (ho : o.op = .call { callee := .builtin .append, args := #[s, x], argTypes := #[t, t] })
    {e : TypeId} (ht : P.underlying t = some (.slice e)) {z : Value} {size bytes : Nat} (hI : (P.info? e).map (fun i => (i.zero, i.size, i.bytes)) = some (some z, size, bytes)) (hzs : z.cells.size = size)
    {els : List (List Tr)} (hs : evA n T s = .cl els) {m : Nat} (hl : els.length = m) (hz : ∀ cs ∈ els, cs.length = size) {news : List (List Tr)} (hx : Rd heap size (evA n T x) news) (h0 : 0 < news.length) (b1 : m + news.length ≤ maxLen) (b2 : (m + news.length) * bytes ≤ 140737488355328) {els' : List (List Tr)} (he : els ++ news = els')
    {heap' : List Ob} {N : Nat} (hat : heap[N]? = some .hole) (hh : heap.set N (.row 0 e size els') = heap') {m' : Nat} (hm' : m + news.length = m')
    (k : RG P ops n F rest (acc ++ [⟨some d, (.sl N 0 m'), [(N, .row 0 e size els')], (N :: idsA (evA n T x))⟩]) (pu T d (.sl N 0 m')) heap') : RG P ops n F (o :: rest) acc T heap := by
  exact RG.cons hd.symm (fun T' h' hT hH hlen_ => A_append_clU (by rw [wanted_eqA hT]; exact hw) hd s x t ho ht hI hzs (by rw [ev_eq hT (by simp [ho, Op.operands, Call.operands])]; exact hs) hl hz (Rd.agree (fun i hi => hH i (by rw [ev_eq hT (by simp [ho, Op.operands, Call.operands])] at hi; simp [hi])) (by rw [ev_eq hT (by simp [ho, Op.operands, Call.operands])]; exact hx)) h0 b1 b2 he (.fill (at_hole (by rw [hH N (by simp)]; exact hat)) (setsAt_one (by rw [hH N (by simp)]; exact hat))) hm' (AL.nil ⟨rfl, rfl, rfl⟩)) rfl (by first | rfl | exact hh) k
theorem R_clip {F : List Dl → (Nat → AV) → List Ob → Prop} {acc : List Dl} (hw : wantedA n T ops o = true) (hd : o.dst = some d) {t : TypeId} {x hi mx : Operand} (ho : o.op = .slice t x none (some hi) (some mx)) {e : TypeId} (ht : P.underlying t = some (.slice e)) {z : Option Value} {size bytes : Nat} (hI : (P.info? e).map (fun i => (i.zero, i.size, i.bytes)) = some (z, size, bytes))
    {els : List (List Tr)} (hx : evA n T x = .t (.lst els)) (hs : ∀ cs ∈ els, cs.length = size) {kd kd' : IntKind} {m m' : Nat} (h1 : evA n T hi = .t (.v (.int kd (m : Int)))) (h2 : evA n T mx = .t (.v (.int kd' (m' : Int)))) (hm : els.length = m) (hm' : els.length = m')
    (k : RG P ops n F rest (acc ++ [⟨some d, .cl els, [], []⟩]) (pu T d (.cl els)) heap) : RG P ops n F (o :: rest) acc T heap := by
  exact RG.cons hd.symm (fun T' h' hT hH hlen_ => A_clip (by rw [wanted_eqA hT]; exact hw) hd ho ht hI (by rw [ev_eq hT (by simp [ho, Op.operands, Call.operands])]; exact hx) hs (by rw [ev_eq hT (by simp [ho, Op.operands, Call.operands])]; exact h1) (by rw [ev_eq hT (by simp [ho, Op.operands, Call.operands])]; exact h2) hm hm' (AL.nil ⟨rfl, rfl, rfl⟩)) rfl rfl k
end
end Go.Proofs.Ytmljglphegeilaa


namespace Go.Proofs.Ytmljglphegeilaa
set_option linter.unusedVariables false
set_option linter.unusedSimpArgs false
set_option linter.unnecessarySimpa false
open Go.RowKit
set_option maxRecDepth 100000
class Ud (P : Program) (t : TypeId) (u : outParam TypeDesc) : Type where
  h : P.underlying t = some u
class In (P : Program) (t : TypeId) (z : outParam (Option Value)) (s b : outParam Nat) : Type where
  h : (P.info? t).map (fun i => (i.zero, i.size, i.bytes)) = some (z, s, b)
class Zr (P : Program) (t : TypeId) (cs : outParam (List AV)) : Type where
  h : ∃ z s b, (P.info? t).map (fun i => (i.zero, i.size, i.bytes)) = some (some z, s, b) ∧ (ofConst z).flat = some cs ∧ z.cells.size = s
class Bp (P : Program) (t : TypeId) (pl : outParam (List (Nat × Nat))) : Type where
  h : ∃ fs, P.underlying t = some (.struct fs) ∧ fs.toList.map (fun f => (f.offset, (P.info? f.type).map (·.size))) = pl.map (fun x => (x.1, some x.2))
class Ba (P : Program) (t : TypeId) (es : outParam Nat) (pl : outParam (List (Nat × Nat))) : Type where
  h : ∃ len el ez eb, P.underlying t = some (.array len el) ∧ (P.info? el).map (fun i => (i.zero, i.size, i.bytes)) = some (ez, es, eb) ∧ arrOk es 0 pl = true
structure ZK (q : Prop) : Prop where
  o : q
theorem qJ {P : Prop} (h : P := by first | with_reducible exact Int.toNat_natCast _ | (simp only [Int.reduceToNat]; exact rfl) | exact rfl | fail) : P := h
inductive Sk : Nat → List Tr → List Tr → Prop
  | z {l : List Tr} : Sk 0 l l
  | s {n : Nat} {a : Tr} {l r : List Tr} (h : Sk n l r) : Sk (n + 1) (a :: l) r
inductive Tm : Nat → List Tr → List AV → Prop
  | z {l : List Tr} : Tm 0 l []
  | s {n : Nat} {a : Tr} {l : List Tr} {r : List AV} (h : Tm n l r) : Tm (n + 1) (a :: l) (.t a :: r)
inductive Tl : List Tr → List AV → Prop
  | z : Tl [] []
  | s {a : Tr} {l : List Tr} {r : List AV} (h : Tl l r) : Tl (a :: l) (.t a :: r)
theorem Sk.get {n : Nat} {l r : List Tr} (h : Sk n l r) : l.drop n = r := by
  induction h with
  | z => rfl
  | s h ih => exact ih
theorem Tm.get {n : Nat} {l : List Tr} {r : List AV} (h : Tm n l r) : (l.take n).map .t = r ∧ r.length = n := by
  induction h with
  | z => exact ⟨rfl, rfl⟩
  | s h ih => exact ⟨by rw [List.take_succ_cons, List.map_cons, ih.1], by rw [List.length_cons, ih.2]⟩
theorem Tl.get {l : List Tr} {r : List AV} (h : Tl l r) : l.map .t = r := by
  induction h with
  | z => rfl
  | s h ih => rw [List.map_cons, ih]
inductive Fl (pl : List (Nat × Nat)) : List AV → List (Nat × List AV) → List AV → Prop
  | nil {c : List AV} : Fl pl c [] c
  | cons {c : List AV} {i off s : Nat} {cs c' r : List AV} {qs : List (Nat × List AV)} (hp : pl[i]? = some (off, s)) (hl : cs.length = s) (hf : off + cs.length ≤ c.length) (hc : c.take off ++ cs ++ c.drop (off + cs.length) = c') (k : Fl pl c' qs r) : Fl pl c ((i, cs) :: qs) r
theorem Fl.get {pl : List (Nat × Nat)} {c r : List AV} {qs : List (Nat × List AV)} (h : Fl pl c qs r) : fillA pl c qs = some r := by
  induction h with
  | nil => rfl
  | cons hp hl hf hc k ih =>
    unfold fillA
    rw [hp]
    simp only [Nat.ble_eq_true_of_le hf, hl, Nat.beq_refl, Bool.and_self, cond_true]
    rw [hl] at hc hf
    rw [hc, ih, Nat.ble_eq_true_of_le hf]
    rfl
inductive FAt : List Field → Nat → TypeId → Nat → Prop
  | z {nm tag pk : String} {ty : TypeId} {off bo : Nat} {em : Bool} {l : List Field} : FAt (⟨nm, ty, off, em, tag, pk, bo⟩ :: l) 0 ty off
  | s {x : Field} {l : List Field} {f : Nat} {ty : TypeId} {off : Nat} (h : FAt l f ty off) : FAt (x :: l) (f + 1) ty off
theorem FAt.get {l : List Field} {f : Nat} {ty : TypeId} {off : Nat} (h : FAt l f ty off) : ∃ fd, l[f]? = some fd ∧ fd.type = ty ∧ fd.offset = off := by
  induction h with
  | z => exact ⟨_, rfl, rfl, rfl⟩
  | s h ih => obtain ⟨fd, h1, h2⟩ := ih; exact ⟨fd, by simpa using h1, h2⟩
theorem FAt.arr {fs : Array Field} {f : Nat} {ty : TypeId} {off : Nat} (h : FAt fs.toList f ty off) : ∃ fd, fs[f]? = some fd ∧ fd.type = ty ∧ fd.offset = off := by
  obtain ⟨fd, h1, h2⟩ := h.get
  exact ⟨fd, by rw [← Array.getElem?_toList]; exact h1, h2⟩
def isHo : Ob → Bool
  | .hole => true
  | _ => false
def fh : List Ob → Nat
  | [] => 0
  | o :: l => bif isHo o then 0 else fh l + 1
theorem fh_at : ∀ (l : List Ob), fh l < l.length → l[fh l]? = some .hole
  | [], h => absurd h (Nat.lt_irrefl _)
  | o :: l, h => by
    cases ho : isHo o
    · have e : fh (o :: l) = fh l + 1 := by show (bif isHo o then 0 else fh l + 1) = _; rw [ho]; rfl
      rw [e] at h ⊢
      rw [List.getElem?_cons_succ]
      exact fh_at l (Nat.lt_of_succ_lt_succ h)
    · have e : fh (o :: l) = 0 := by show (bif isHo o then 0 else fh l + 1) = _; rw [ho]; rfl
      rw [e]
      cases o <;> first | rfl | cases ho
theorem qh {heap : List Ob} {N : Nat} (h : fh heap = N := by first | (simp only [fh, isHo, cond_true, cond_false, Nat.zero_add, Nat.reduceAdd]; exact rfl) | fail) (h2 : Nat.blt N heap.length = true := by first | exact rfl | fail) : heap[N]? = some .hole := by
  subst h; exact fh_at heap (by unfold Nat.blt at h2; exact Nat.le_of_ble_eq_true h2)
theorem qG {P : Prop} (h : P := by first | ((repeat (first | exact FAt.z | apply FAt.s)); (first | done | fail)) | fail) : P := h
def isAg : TypeDesc → Bool
  | .struct _ => true
  | .array _ _ => true
  | _ => false
def addN (s : List Nat) (x : Nat) : List Nat := bif s.contains x then s else x :: s
def ancL (A : List (List Nat)) : List Oper → List (List Nat)
  | [] => A
  | o :: l => ancL (A ++ [(directs o).foldl (fun s d => (d :: A.getD d []).foldl addN s) []]) l
section
variable {P : Program} {ops : Array Oper} {Q : QS} {rest : List Oper} {o : Oper} {n : Fr} {T : Nat → AV} {heap : List Ob} {d : Nat} {F : List Dl → (Nat → AV) → List Ob → Prop} {acc : List Dl}
theorem notD {p : Prop} [Decidable p] (h : (!decide p) = true) : ¬ p := by simpa using h
theorem notE {p : Prop} [Decidable p] (h : (!decide p) = false) : p := by simpa using h
theorem notB {b : Bool} (h : (!b) = true) : b = false := by simpa using h
theorem notC {b : Bool} (h : (!b) = false) : b = true := by simpa using h
theorem A_fieldU (hw : wantedA n T ops o = true) (hd : o.dst = some d) {t : TypeId} {x : Operand} {f : Nat} (ho : o.op = .fieldAddr t x f) {fs : Array Field} (hu : P.underlying t = some (.struct fs)) {ft m : Nat} (hf : FAt fs.toList f ft m) {z : Option Value} {size bytes : Nat} (hI : (P.info? ft).map (fun i => (i.zero, i.size, i.bytes)) = some (z, size, bytes)) (hs : size ≠ 0) {y : AV} (hy : shiftA m (evA n T x) = some y) (k : AL P ops Q rest n (pu T d y) heap) : AL P ops Q (o :: rest) n T heap := (by obtain ⟨fd, h1, h2, h3⟩ := hf.arr; exact A_field hw hd t x f ho hu h1 (by rw [h2]; exact hI) hs m h3 hy k)
theorem R_fieldU (hw : wantedA n T ops o = true) (hd : o.dst = some d) {t : TypeId} {x : Operand} {f : Nat} (ho : o.op = .fieldAddr t x f) {fs : Array Field} (hu : P.underlying t = some (.struct fs)) {ft m : Nat} (hf : FAt fs.toList f ft m) {z : Option Value} {size bytes : Nat} (hI : (P.info? ft).map (fun i => (i.zero, i.size, i.bytes)) = some (z, size, bytes)) (hs : size ≠ 0) {y : AV} (hy : shiftA m (evA n T x) = some y) (k : RG P ops n F rest (acc ++ [⟨some d, y, [], []⟩]) (pu T d y) heap) : RG P ops n F (o :: rest) acc T heap := (by obtain ⟨fd, h1, h2, h3⟩ := hf.arr; exact R_field hw hd t x f ho hu h1 (by rw [h2]; exact hI) hs m h3 hy k)
theorem A_getU (hw : wantedA n T ops o = true) (hd : o.dst = some d) {t : TypeId} {x : Operand} {f : Nat} (ho : o.op = .field t x f) {fs : Array Field} (hu : P.underlying t = some (.struct fs)) {ft m : Nat} (hf : FAt fs.toList f ft m) {ds : TypeDesc} (hds : P.underlying ft = some ds) (ha : isAg ds = false) {l : List AV} (hx : evA n T x = .agg l) {u : AV} (hc : l[m]? = some u) (k : AL P ops Q rest n (pu T d u) heap) : AL P ops Q (o :: rest) n T heap := (by obtain ⟨fd, h1, h2, h3⟩ := hf.arr; exact A_get (ds := ds) hw hd t x f ho hu h1 (by cases ds <;> exact ha) (by rw [h2]; exact hds) h3 hx hc k)
theorem R_getU (hw : wantedA n T ops o = true) (hd : o.dst = some d) {t : TypeId} {x : Operand} {f : Nat} (ho : o.op = .field t x f) {fs : Array Field} (hu : P.underlying t = some (.struct fs)) {ft m : Nat} (hf : FAt fs.toList f ft m) {ds : TypeDesc} (hds : P.underlying ft = some ds) (ha : isAg ds = false) {l : List AV} (hx : evA n T x = .agg l) {u : AV} (hc : l[m]? = some u) (k : RG P ops n F rest (acc ++ [⟨some d, u, [], []⟩]) (pu T d u) heap) : RG P ops n F (o :: rest) acc T heap := (by obtain ⟨fd, h1, h2, h3⟩ := hf.arr; exact R_get (ds := ds) hw hd t x f ho hu h1 (by cases ds <;> exact ha) (by rw [h2]; exact hds) h3 hx hc k)
theorem A_get_aggU (hw : wantedA n T ops o = true) (hd : o.dst = some d) {t : TypeId} {x : Operand} {f : Nat} (ho : o.op = .field t x f) {fs : Array Field} (hu : P.underlying t = some (.struct fs)) {ft m : Nat} (hf : FAt fs.toList f ft m) {ds : TypeDesc} (hds : P.underlying ft = some ds) (ha : isAg ds = true) {z : Option Value} {size bytes : Nat} (hI : (P.info? ft).map (fun i => (i.zero, i.size, i.bytes)) = some (z, size, bytes)) {l : List AV} (hx : evA n T x = .agg l) {us' : List AV} (hc : (l.drop m).take size = us') (k : AL P ops Q rest n (pu T d (.agg us')) heap) : AL P ops Q (o :: rest) n T heap := (by obtain ⟨fd, h1, h2, h3⟩ := hf.arr; exact A_get_agg (ds := ds) hw hd t x f ho hu h1 (by cases ds <;> exact ha) (by rw [h2]; exact hds) (by rw [h2]; exact hI) h3 hx hc k)
theorem R_get_aggU (hw : wantedA n T ops o = true) (hd : o.dst = some d) {t : TypeId} {x : Operand} {f : Nat} (ho : o.op = .field t x f) {fs : Array Field} (hu : P.underlying t = some (.struct fs)) {ft m : Nat} (hf : FAt fs.toList f ft m) {ds : TypeDesc} (hds : P.underlying ft = some ds) (ha : isAg ds = true) {z : Option Value} {size bytes : Nat} (hI : (P.info? ft).map (fun i => (i.zero, i.size, i.bytes)) = some (z, size, bytes)) {l : List AV} (hx : evA n T x = .agg l) {us' : List AV} (hc : (l.drop m).take size = us') (k : RG P ops n F rest (acc ++ [⟨some d, (.agg us'), [], []⟩]) (pu T d (.agg us')) heap) : RG P ops n F (o :: rest) acc T heap := (by obtain ⟨fd, h1, h2, h3⟩ := hf.arr; exact R_get_agg (ds := ds) hw hd t x f ho hu h1 (by cases ds <;> exact ha) (by rw [h2]; exact hds) (by rw [h2]; exact hI) h3 hx hc k)
theorem A_load_rp_aggU (hw : wantedA n T ops o = true) (hd : o.dst = some d) {t : TypeId} {x : Operand} (ho : o.op = .load t x) {ds : TypeDesc} (hu : P.underlying t = some ds) (hds : isAg ds = true) {z : Option Value} {size bytes : Nat} (hI : (P.info? t).map (fun i => (i.zero, i.size, i.bytes)) = some (z, size, bytes)) {i k' idx off : Nat} (hx : evA n T x = .rp i k' idx off) {E : TypeId} {s : Nat} {els : List (List Tr)} (hi : heap[i]? = some (.row k' E s els)) {cs : List Tr} (he : els[idx]? = some cs) {cs' : List Tr} (h1 : Sk off cs cs') {us' : List AV} (h2 : Tm size cs' us') (k : AL P ops Q rest n (pu T d (.agg us')) heap) : AL P ops Q (o :: rest) n T heap := A_load_rp_agg (ds := ds) hw hd t x ho hu (by cases ds <;> exact hds) hI hx hi he (by rw [h1.get]; exact h2.get.1) h2.get.2 k
theorem R_load_rp_aggU (hw : wantedA n T ops o = true) (hd : o.dst = some d) {t : TypeId} {x : Operand} (ho : o.op = .load t x) {ds : TypeDesc} (hu : P.underlying t = some ds) (hds : isAg ds = true) {z : Option Value} {size bytes : Nat} (hI : (P.info? t).map (fun i => (i.zero, i.size, i.bytes)) = some (z, size, bytes)) {i k' idx off : Nat} (hx : evA n T x = .rp i k' idx off) {E : TypeId} {s : Nat} {els : List (List Tr)} (hi : heap[i]? = some (.row k' E s els)) {cs : List Tr} (he : els[idx]? = some cs) {cs' : List Tr} (h1 : Sk off cs cs') {us' : List AV} (h2 : Tm size cs' us') (k : RG P ops n F rest (acc ++ [⟨some d, (.agg us'), [], [i]⟩]) (pu T d (.agg us')) heap) : RG P ops n F (o :: rest) acc T heap := R_load_rp_agg (ds := ds) hw hd t x ho hu (by cases ds <;> exact hds) hI hx hi he (by rw [h1.get]; exact h2.get.1) h2.get.2 k
theorem A_idxU (hw : wantedA n T ops o = true) (hd : o.dst = some d) {t : TypeId} {x ix : Operand} (ho : o.op = .indexAddr t x ix) {e : TypeId} (ht : P.underlying t = some (.slice e)) {z : Option Value} {size bytes : Nat} (hI : (P.info? e).map (fun i => (i.zero, i.size, i.bytes)) = some (z, size, bytes)) (hsz : size ≠ 0) {els : List (List Tr)} (hx : evA n T x = .ln els ∨ evA n T x = .t (.lst els)) {kd : IntKind} {I : Int} (hix : evA n T ix = .t (.v (.int kd I))) (h0I : 0 ≤ I) {J : Nat} (hJ : I.toNat = J) {cs : List Tr} (he : els[J]? = some cs) (hs : cs.length = size) {cs' : List AV} (hc : Tl cs cs') (k : AL P ops Q rest n (pu T d (.lp cs')) heap) : AL P ops Q (o :: rest) n T heap := A_idx hw hd t x ix ho ht hI hsz hx hix h0I J hJ he hs hc.get k
theorem R_idxU (hw : wantedA n T ops o = true) (hd : o.dst = some d) {t : TypeId} {x ix : Operand} (ho : o.op = .indexAddr t x ix) {e : TypeId} (ht : P.underlying t = some (.slice e)) {z : Option Value} {size bytes : Nat} (hI : (P.info? e).map (fun i => (i.zero, i.size, i.bytes)) = some (z, size, bytes)) (hsz : size ≠ 0) {els : List (List Tr)} (hx : evA n T x = .ln els ∨ evA n T x = .t (.lst els)) {kd : IntKind} {I : Int} (hix : evA n T ix = .t (.v (.int kd I))) (h0I : 0 ≤ I) {J : Nat} (hJ : I.toNat = J) {cs : List Tr} (he : els[J]? = some cs) (hs : cs.length = size) {cs' : List AV} (hc : Tl cs cs') (k : RG P ops n F rest (acc ++ [⟨some d, (.lp cs'), [], []⟩]) (pu T d (.lp cs')) heap) : RG P ops n F (o :: rest) acc T heap := R_idx hw hd t x ix ho ht hI hsz hx hix h0I J hJ he hs hc.get k
theorem A_allocU (hw : wantedA n T ops o = true) (hd : o.dst = some d) {t : TypeId} (ho : o.op = .alloc t) {cs : List AV} (hz : ∃ z s b, (P.info? t).map (fun i => (i.zero, i.size, i.bytes)) = some (some z, s, b) ∧ (ofConst z).flat = some cs ∧ z.cells.size = s) {heap' : List Ob} {N : Nat} (hat : AtL heap N [.box t cs] heap') (k : AL P ops Q rest n (pu T d (.ptr N 0)) heap') : AL P ops Q (o :: rest) n T heap := by obtain ⟨z, s, b, h1, h2, _⟩ := hz; exact A_alloc hw hd t ho h1 h2 hat k
theorem R_allocU (hw : wantedA n T ops o = true) (hd : o.dst = some d) {t : TypeId} (ho : o.op = .alloc t) {cs : List AV} (hz : ∃ z s b, (P.info? t).map (fun i => (i.zero, i.size, i.bytes)) = some (some z, s, b) ∧ (ofConst z).flat = some cs ∧ z.cells.size = s) {heap' : List Ob} {N : Nat} (hat : heap[N]? = some .hole) (hh : heap.set N (.box t cs) = heap') (k : RG P ops n F rest (acc ++ [⟨some d, (.ptr N 0), [(N, .box t cs)], [N]⟩]) (pu T d (.ptr N 0)) heap') : RG P ops n F (o :: rest) acc T heap := by obtain ⟨z, s, b, h1, h2, _⟩ := hz; exact R_alloc hw hd t ho h1 h2 hat hh k
theorem A_buildU (hw : wantedA n T ops o = true) (hd : o.dst = some d) {t : TypeId} {parts : Array (Nat × Operand)} (ho : o.op = .build t parts) {pl : List (Nat × Nat)} (hb : ∃ fs, P.underlying t = some (.struct fs) ∧ fs.toList.map (fun f => (f.offset, (P.info? f.type).map (·.size))) = pl.map (fun x => (x.1, some x.2))) {zs : List AV} (hz : ∃ z s b, (P.info? t).map (fun i => (i.zero, i.size, i.bytes)) = some (some z, s, b) ∧ (ofConst z).flat = some zs ∧ z.cells.size = s) {qs : List (Nat × List AV)} (hq : Parts n T parts.toList qs) {cs : List AV} (hf : Fl pl zs qs cs) (k : AL P ops Q rest n (pu T d (.agg cs)) heap) : AL P ops Q (o :: rest) n T heap := by obtain ⟨z, s, b, h1, h2, _⟩ := hz; obtain ⟨fs, h3, h4⟩ := hb; exact A_build hw hd t parts ho h3 h1 pl h4 h2 hq hf.get k
theorem A_buildB (hw : wantedA n T ops o = true) (hd : o.dst = some d) {t : TypeId} {parts : Array (Nat × Operand)} (ho : o.op = .build t parts) {es : Nat} {pl : List (Nat × Nat)} (hb : ∃ len el ez eb, P.underlying t = some (.array len el) ∧ (P.info? el).map (fun i => (i.zero, i.size, i.bytes)) = some (ez, es, eb) ∧ arrOk es 0 pl = true) {zs : List AV} (hz : ∃ z s b, (P.info? t).map (fun i => (i.zero, i.size, i.bytes)) = some (some z, s, b) ∧ (ofConst z).flat = some zs ∧ z.cells.size = s) {qs : List (Nat × List AV)} (hq : Parts n T parts.toList qs) {cs : List AV} (hf : Fl pl zs qs cs) (k : AL P ops Q rest n (pu T d (.agg cs)) heap) : AL P ops Q (o :: rest) n T heap := by obtain ⟨z, s, b, h1, h2, _⟩ := hz; obtain ⟨len, el, ez, eb, h3, h4, h5⟩ := hb; exact A_buildA hw hd ho h3 h1 h4 h5 h2 hq hf.get k
theorem R_buildU (hw : wantedA n T ops o = true) (hd : o.dst = some d) {t : TypeId} {parts : Array (Nat × Operand)} (ho : o.op = .build t parts) {pl : List (Nat × Nat)} (hb : ∃ fs, P.underlying t = some (.struct fs) ∧ fs.toList.map (fun f => (f.offset, (P.info? f.type).map (·.size))) = pl.map (fun x => (x.1, some x.2))) {zs : List AV} (hz : ∃ z s b, (P.info? t).map (fun i => (i.zero, i.size, i.bytes)) = some (some z, s, b) ∧ (ofConst z).flat = some zs ∧ z.cells.size = s) {qs : List (Nat × List AV)} (hq : Parts n T parts.toList qs) {cs : List AV} (hf : Fl pl zs qs cs) (k : RG P ops n F rest (acc ++ [⟨some d, (.agg cs), [], []⟩]) (pu T d (.agg cs)) heap) : RG P ops n F (o :: rest) acc T heap := by obtain ⟨z, s, b, h1, h2, _⟩ := hz; obtain ⟨fs, h3, h4⟩ := hb; exact R_build hw hd t parts ho h3 h1 pl h4 h2 hq hf.get k
theorem R_buildB (hw : wantedA n T ops o = true) (hd : o.dst = some d) {t : TypeId} {parts : Array (Nat × Operand)} (ho : o.op = .build t parts) {es : Nat} {pl : List (Nat × Nat)} (hb : ∃ len el ez eb, P.underlying t = some (.array len el) ∧ (P.info? el).map (fun i => (i.zero, i.size, i.bytes)) = some (ez, es, eb) ∧ arrOk es 0 pl = true) {zs : List AV} (hz : ∃ z s b, (P.info? t).map (fun i => (i.zero, i.size, i.bytes)) = some (some z, s, b) ∧ (ofConst z).flat = some zs ∧ z.cells.size = s) {qs : List (Nat × List AV)} (hq : Parts n T parts.toList qs) {cs : List AV} (hf : Fl pl zs qs cs) (k : RG P ops n F rest (acc ++ [⟨some d, (.agg cs), [], []⟩]) (pu T d (.agg cs)) heap) : RG P ops n F (o :: rest) acc T heap := by obtain ⟨z, s, b, h1, h2, _⟩ := hz; obtain ⟨len, el, ez, eb, h3, h4, h5⟩ := hb; exact R_buildA hw hd ho h3 h1 h4 h5 h2 hq hf.get k
theorem zkM (m : Nat) (k : AL P ops Q (o :: rest) n T heap) (h : opKind o % 32 = m := by first | exact rfl | fail) : AL P ops Q (o :: rest) n T heap := (fun _ => k) h
theorem zkN {ac : List Dl} (m : Nat) (k : RG P ops n F (o :: rest) ac T heap) (h : opKind o % 32 = m := by first | exact rfl | fail) : RG P ops n F (o :: rest) ac T heap := (fun _ => k) h
theorem AW.drawU {id : Nat} {l : List Oper} (hm : P.follows .mixedOrders = true) (m : Nat) {h1 : List Ob} (hh : heap ++ List.replicate m .hole = h1) (hr : RG P l.toArray n (fun Ds T2 h2 => chkD l (ancL [] l) (W_ Ds) = true ∧ Q .normal T2 h2) l [] T h1) : AW P (.region id l.toArray true) Q n T heap := AW.at_draw id hm m _ hh hr
theorem uK {f : FuncId} {fn : Func} {args : Array Operand} {tys : Array TypeId} {xs : List AV} {r : AV} {L : List Ob} (hc : Cd P f xs r L) {N : Nat} {r' : AV} {L' heap' : List Ob} (k : AL P ops Q rest n (pu T d r') heap') (ho : o.op = .call { callee := .value (.func f), args := args, argTypes := tys } := by first | exact rfl | fail) (hw : wantedA n T ops o = true := by first | exact rfl | fail) (hd : o.dst = some d := by first | exact rfl | fail) (hf : P.funcs[f]? = some fn := by first | exact rfl | fail) (hn : (fn.name == "runtime.NumGoroutine") = false := by first | kernel_rfl | fail) (hb : fn.body.isNone = false := by first | kernel_rfl | fail) (hp : PassL heap [] (args.toList.map (evA n T)) xs := by first | ((repeat' (first | exact .nil | exact .sel rfl | exact .ptr rfl | refine .cons ?_ ?_ | exact .t _ | exact hps _ _ | refine .aggL ?_ | exact .any _ | exact .lst _ | exact .nl | exact .nln | exact .nlt | exact .ln _ | exact .all rfl rfl (by first | rfl | (simp <;> fail) | (simp; omega)) | exact .own rfl rfl (by first | exact Nat.le_refl _ | (simp <;> fail) | (simp; omega)) | exact .subE rfl rfl (by first | exact take_drop_map (by first | omega | (simp; omega)) | exact take_drop_map' | rfl) (by first | exact Nat.le_refl _ | (simp <;> fail) | (simp; omega)) | exact .ownE rfl rfl (by first | exact Nat.le_refl _ | (simp <;> fail) | (simp; omega)) | refine .lpL ?_ | refine .boxL rfl rfl rfl ?_ | refine .fnL ?_ ?_)); (first | done | fail)) | fail) (hN : heap.length = N := by first | (((try simp only [List.length_cons, List.length_nil, Nat.zero_add, Nat.reduceAdd]); exact rfl)) | fail) (hr : upA (shiftG N) r = r' := by first | (((try simp only [upA, upF, upO, shiftG, List.map_cons, List.map_nil, Nat.reduceAdd, Nat.zero_add, Nat.add_zero]); exact rfl)) | fail) (hL : L.map (upO (shiftG N)) = L' := by first | (((try simp only [upA, upF, upO, shiftG, List.map_cons, List.map_nil, Nat.reduceAdd, Nat.zero_add, Nat.add_zero]); exact rfl)) | fail) (hh : heap ++ L' = heap' := by first | (((try simp only [List.take_zero, List.take_succ_cons, List.drop_zero, List.drop_succ_cons, List.nil_append, List.cons_append, List.append_nil, List.length_cons, List.length_nil, List.set_cons_zero, List.set_cons_succ, List.map_cons, List.map_nil, List.take_nil, List.drop_nil, Nat.zero_add, Nat.add_zero, Nat.reduceAdd, Nat.reduceSub]); exact rfl)) | fail) : AL P ops Q (o :: rest) n T heap := A_calld hw hd hf hn hb ho hc hp hN hr hL hh k
theorem uQ {f : FuncId} {fn : Func} {args : Array Operand} {tys : Array TypeId} {xs : List AV} {r : AV} {L : List Ob} (hc : Cd P f xs r L) (N : Nat) {r' : AV} {L' heap' : List Ob} {al : List Nat} (k : RG P ops n F rest (acc ++ [⟨some d, r', (L'.zipIdx N).map (fun p => (p.2, p.1)), (L'.zipIdx N).map (·.2) ++ al⟩]) (pu T d r') heap') (ho : o.op = .call { callee := .value (.func f), args := args, argTypes := tys } := by first | exact rfl | fail) (hw : wantedA n T ops o = true := by first | exact rfl | fail) (hd : o.dst = some d := by first | exact rfl | fail) (hf : P.funcs[f]? = some fn := by first | exact rfl | fail) (hn : (fn.name == "runtime.NumGoroutine") = false := by first | kernel_rfl | fail) (hb : fn.body.isNone = false := by first | kernel_rfl | fail) (ha : deep heap 3 (idsVs (args.toList.map (evA n T))) = al := by first | exact rfl | fail) (hp : ∀ h', (∀ i, al.contains i = true → h'[i]? = heap[i]?) → PassL h' [] (args.toList.map (evA n T)) xs := by first | (intro h' hh; (repeat' (first | exact .nil | exact .sel rfl | exact .ptr rfl | refine .cons ?_ ?_ | exact .t _ | exact hps _ _ | refine .aggL ?_ | exact .any _ | exact .lst _ | exact .nl | exact .nln | exact .nlt | exact .ln _ | (apply Pass.all; exact (hh _ rfl).trans rfl; exact rfl; exact (by first | rfl | (simp <;> fail) | (simp; omega))) | (apply Pass.own; exact (hh _ rfl).trans rfl; exact rfl; exact (by first | exact Nat.le_refl _ | (simp <;> fail) | (simp; omega))) | (apply Pass.subE; exact (hh _ rfl).trans rfl; exact rfl; exact (by first | exact take_drop_map (by first | omega | (simp; omega)) | exact take_drop_map' | rfl); exact (by first | exact Nat.le_refl _ | (simp <;> fail) | (simp; omega))) | (apply Pass.ownE; exact (hh _ rfl).trans rfl; exact rfl; exact (by first | exact Nat.le_refl _ | (simp <;> fail) | (simp; omega))) | refine .lpL ?_ | refine .boxL ((hh _ rfl).trans rfl) rfl rfl ?_ | refine .fnL ?_ ?_)); (first | done | fail)) | fail) (hN : (L.zipIdx N).all (fun p => isHole heap[p.2]?) = true := by first | exact rfl | fail) (hr : upA (shiftG N) r = r' := by first | (((try simp only [upA, upF, upO, shiftG, List.map_cons, List.map_nil, Nat.reduceAdd, Nat.zero_add, Nat.add_zero]); exact rfl)) | fail) (hL : L.map (upO (shiftG N)) = L' := by first | (((try simp only [upA, upF, upO, shiftG, List.map_cons, List.map_nil, Nat.reduceAdd, Nat.zero_add, Nat.add_zero]); exact rfl)) | fail) (hh : setAll heap ((L'.zipIdx N).map (fun p => (p.2, p.1))) = heap' := by first | (((try simp only [setAll, List.zipIdx_cons, List.zipIdx_nil, List.map_cons, List.map_nil, List.set_cons_zero, List.set_cons_succ]); exact rfl)) | fail) : RG P ops n F (o :: rest) acc T heap := R_calld hw hd hf hn hb ho hc ha hp N hN hr hL hh k
theorem uS (g : Nat) {b : Bool} {pt pf : Prop} (ht : pt → AL P ops Q rest n (pu T g (.t (.v (.bool true)))) heap) (hf : pf → AL P ops Q rest n (pu T g (.t (.v (.bool false)))) heap) (hg : evA n T (.tmp g) = .t (.v (.bool b)) := by first | exact rfl | fail) (h1 : b = true → pt := by first | exact of_decide_eq_true | exact notD | exact notB | (intro h; (fail_if_success (change true = true at h)); (fail_if_success (change false = true at h)); exact h) | fail) (h2 : b = false → pf := by first | exact of_decide_eq_false | exact notE | exact notC | (intro h; exact h) | fail) : AL P ops Q rest n T heap := AL.split g hg (fun h => ht (h1 h)) (fun h => hf (h2 h))
end
theorem uA {p q : Prop} (k : q) (h : ZK q → p := by (intro zk; first | (((with_reducible refine kAL ?_); first | (refine AL.nil ?_) | (refine AL.skip rfl rfl ?_) | (refine AL.skip0 rfl rfl ?_) | (first | (refine zkM 0 ?_; first | refine A_mt rfl rfl rfl rfl ?_ | refine A_move rfl rfl _ (.inl rfl) (y := .sl _ _ _) rfl ?_ | refine A_move rfl rfl _ (.inl rfl) (y := .nl) rfl ?_ | refine A_move rfl rfl _ (.inl rfl) (y := .ptr _ _) rfl ?_ | refine A_move rfl rfl _ (.inl rfl) (y := .ln _) rfl ?_ | refine A_move rfl rfl _ (.inl rfl) (y := .lp _) rfl ?_ | refine A_move rfl rfl _ (.inl rfl) (y := .fn _ _ _) rfl ?_ | refine A_move rfl rfl _ (.inl rfl) (y := .sub _ _ _ _) rfl ?_ | refine A_move rfl rfl _ (.inl rfl) (y := .rp _ _ _ _) rfl ?_ | refine A_move rfl rfl _ (.inl rfl) (y := .agg _) rfl ?_ | refine A_move rfl rfl _ (.inl rfl) (y := .tup _) rfl ?_ | refine A_move rfl rfl _ (.inl rfl) (y := .mv _) rfl ?_ | refine A_move rfl rfl _ (.inl rfl) (y := .cl _) rfl ?_) | (refine zkM 2 ?_; first | refine A_load rfl rfl _ _ rfl Ud.h rfl rfl rfl rfl ?_ | refine A_load_agg rfl rfl _ _ rfl Ud.h rfl In.h rfl rfl qN rfl ?_ | refine A_load_lp rfl rfl _ _ rfl Ud.h rfl rfl rfl ?_ | refine A_load_lp_agg rfl rfl _ _ rfl Ud.h rfl In.h rfl qN rfl ?_ | refine A_load_rp rfl rfl _ _ rfl Ud.h rfl rfl rfl (by first | exact map_get (by assumption) | assumption | exact rfl | exact map_get (get_D (x := 0) (by omega))) rfl ?_ | refine A_load_rp_aggU rfl rfl rfl Ud.h rfl In.h rfl rfl (by first | exact map_get (by assumption) | assumption | exact rfl | exact map_get (get_D (x := 0) (by omega))) (by repeat (first | exact Sk.z | apply Sk.s)) (by repeat (first | exact Tm.z | apply Tm.s)) ?_) | (refine zkM 4 ?_; first | refine A_fieldU rfl rfl rfl Ud.h qG In.h (by decide) rfl ?_) | (refine zkM 1 ?_; first | refine A_as rfl rfl rfl rfl ?_ | refine A_move rfl rfl _ (.inr rfl) (y := .sl _ _ _) rfl ?_ | refine A_move rfl rfl _ (.inr rfl) (y := .nl) rfl ?_ | refine A_move rfl rfl _ (.inr rfl) (y := .ptr _ _) rfl ?_ | refine A_move rfl rfl _ (.inr rfl) (y := .ln _) rfl ?_ | refine A_move rfl rfl _ (.inr rfl) (y := .lp _) rfl ?_ | refine A_move rfl rfl _ (.inr rfl) (y := .fn _ _ _) rfl ?_ | refine A_move rfl rfl _ (.inr rfl) (y := .sub _ _ _ _) rfl ?_ | refine A_move rfl rfl _ (.inr rfl) (y := .rp _ _ _ _) rfl ?_ | refine A_move rfl rfl _ (.inr rfl) (y := .agg _) rfl ?_ | refine A_move rfl rfl _ (.inr rfl) (y := .tup _) rfl ?_ | refine A_move rfl rfl _ (.inr rfl) (y := .mv _) rfl ?_ | refine A_move rfl rfl _ (.inr rfl) (y := .cl _) rfl ?_) | (refine zkM 9 ?_; first | refine A_add rfl rfl _ _ _ _ rfl rfl rfl (by first | exact wi | exact wu | rfl) ?_ | refine A_sub rfl rfl _ _ _ _ rfl rfl rfl (by first | exact wi | exact wu | rfl) ?_ | refine A_mul rfl rfl _ _ _ _ rfl rfl rfl (by first | exact wi | exact wu | rfl) ?_ | refine A_cmp rfl rfl (c := true) _ _ _ _ _ rfl rfl rfl (by exact congrArg some (decide_eq_true (by (try (dsimp only; fail_if_success done)); first | omega | fail))) ?_ | refine A_cmp rfl rfl (c := false) _ _ _ _ _ rfl rfl rfl (by exact congrArg some (decide_eq_false (by (try (dsimp only; fail_if_success done)); first | omega | fail))) ?_ | refine A_cmp rfl rfl _ _ _ _ _ rfl rfl rfl rfl ?_ | refine A_beq rfl rfl _ _ _ _ rfl Ud.h rfl rfl ?_ | refine A_bne rfl rfl _ _ _ _ rfl Ud.h rfl rfl ?_ | refine A_quo rfl rfl _ _ _ _ rfl rfl rfl (by first | decide | omega) (by first | exact IntWalk.i64_quo _ _ (by omega) | exact IntWalk.u64_quo _ _ (by omega) | rfl) ?_ | refine A_rem rfl rfl _ _ _ _ rfl rfl rfl (by first | decide | omega) (by first | exact IntWalk.rem_in _ _ (by omega) | rfl) ?_ | refine A_pnil rfl rfl rfl Ud.h rfl (by first | exact .inl ⟨rfl, rfl⟩ | exact .inr ⟨rfl, rfl⟩) ?_ | refine A_snil rfl rfl rfl Ud.h rfl (by first | omega | (simp <;> fail) | (simp; omega)) (by first | exact .inl ⟨rfl, rfl⟩ | exact .inr ⟨rfl, rfl⟩) ?_) | (refine zkM 3 ?_; first | refine A_store rfl rfl _ _ _ rfl In.h rfl rfl rfl rfl (Nat.le_of_ble_eq_true rfl) qN qN ?_ | refine A_store_rp rfl rfl _ _ _ rfl In.h (by decide) rfl rfl (by first | exact map_get (by assumption) | assumption | exact rfl | exact map_get (get_D (x := 0) (by omega))) rfl rfl rfl (Nat.le_of_ble_eq_true rfl) (by first | exact map_set (f := tI) (x := _) | exact map_set (f := tU) (x := _) | exact map_set (f := tR) (x := ⟨_, _, _, _⟩) | exact map_set (f := tCs) (x := ⟨_, _, _⟩) | exact map_set (f := tOd) (x := ⟨⟨_, _⟩, _⟩) | exact map_set (f := tRf) (x := ⟨_, _⟩) | exact map_set (f := tOp) (x := ⟨_, _, _, ⟨_, _, _, _, _⟩⟩) | ((try simp only [List.take_zero, List.take_succ_cons, List.drop_zero, List.drop_succ_cons, List.nil_append, List.cons_append, List.append_nil, List.length_cons, List.length_nil, List.set_cons_zero, List.set_cons_succ, List.map_cons, List.map_nil, List.take_nil, List.drop_nil, Nat.zero_add, Nat.add_zero, Nat.reduceAdd, Nat.reduceSub]); rfl)) qN ?_) | (refine zkM 12 ?_; first | refine A_len rfl rfl _ _ rfl Ud.h rfl ?_ | refine A_append rfl rfl _ _ _ rfl Ud.h In.h rfl rfl rfl (by first | exact Nat.le_refl _ | (simp <;> fail) | (simp; omega)) (by first | exact .nl | exact .all rfl (by first | rfl | (simp <;> fail) | (simp; omega)) | exact .lst (by first | exact each_map (fun _ => rfl) | assumption | (simp <;> fail)) | exact .ln (by first | exact each_map (fun _ => rfl) | assumption | (simp <;> fail)) | exact .sl rfl (by first | exact Nat.le_refl _ | (simp <;> fail) | (simp; omega)) | exact .sub rfl (by first | exact Nat.le_refl _ | (simp <;> fail) | (simp; omega))) qB qB (by first | exact app_map (by first | rfl | omega | (simp <;> fail)) | exact app_one (f := tI) (x := _) (by first | rfl | omega | (simp <;> fail)) | exact app_one (f := tU) (x := _) (by first | rfl | omega | (simp <;> fail)) | exact app_one (f := tR) (x := ⟨_, _, _, _⟩) (by first | rfl | omega | (simp <;> fail)) | exact app_one (f := tCs) (x := ⟨_, _, _⟩) (by first | rfl | omega | (simp <;> fail)) | exact app_one (f := tOd) (x := ⟨⟨_, _⟩, _⟩) (by first | rfl | omega | (simp <;> fail)) | exact app_one (f := tRf) (x := ⟨_, _⟩) (by first | rfl | omega | (simp <;> fail)) | exact app_one (f := tOp) (x := ⟨_, _, _, ⟨_, _, _, _, _⟩⟩) (by first | rfl | omega | (simp <;> fail)) | ((try simp only [List.take_zero, List.take_succ_cons, List.drop_zero, List.drop_succ_cons, List.nil_append, List.cons_append, List.append_nil, List.length_cons, List.length_nil, List.set_cons_zero, List.set_cons_succ, List.map_cons, List.map_nil, List.take_nil, List.drop_nil, Nat.zero_add, Nat.add_zero, Nat.reduceAdd, Nat.reduceSub]); rfl)) qN qS ?_ | refine A_append_nl rfl rfl _ _ _ rfl Ud.h In.h rfl rfl (by first | exact .nl | exact .all rfl (by first | rfl | (simp <;> fail) | (simp; omega)) | exact .lst (by first | exact each_map (fun _ => rfl) | assumption | (simp <;> fail)) | exact .ln (by first | exact each_map (fun _ => rfl) | assumption | (simp <;> fail)) | exact .sl rfl (by first | exact Nat.le_refl _ | (simp <;> fail) | (simp; omega)) | exact .sub rfl (by first | exact Nat.le_refl _ | (simp <;> fail) | (simp; omega))) qB qB (by first | exact (rfl : _ = List.map tI [_]) | exact (rfl : _ = List.map tU [_]) | exact (rfl : _ = List.map tR [⟨_, _, _, _⟩]) | exact (rfl : _ = List.map tCs [⟨_, _, _⟩]) | exact (rfl : _ = List.map tOd [⟨⟨_, _⟩, _⟩]) | exact (rfl : _ = List.map tRf [⟨_, _⟩]) | exact (rfl : _ = List.map tOp [⟨_, _, _, ⟨_, _, _, _, _⟩⟩]) | ((try simp only [List.take_zero, List.take_succ_cons, List.drop_zero, List.drop_succ_cons, List.nil_append, List.cons_append, List.append_nil, List.length_cons, List.length_nil, List.set_cons_zero, List.set_cons_succ, List.map_cons, List.map_nil, List.take_nil, List.drop_nil, Nat.zero_add, Nat.add_zero, Nat.reduceAdd, Nat.reduceSub]); rfl)) (.push qL qN) qS ?_ | refine A_max rfl rfl _ _ _ rfl rfl rfl ?_ | refine A_min rfl rfl _ _ _ rfl rfl rfl ?_ | refine A_append_clU rfl rfl _ _ _ rfl Ud.h In.h rfl rfl (by first | exact List.length_map _ | rfl) (by first | exact each_map (fun _ => rfl) | assumption | (simp <;> fail)) (by first | exact .nl | exact .all rfl (by first | rfl | (simp <;> fail) | (simp; omega)) | exact .lst (by first | exact each_map (fun _ => rfl) | assumption | (simp <;> fail)) | exact .ln (by first | exact each_map (fun _ => rfl) | assumption | (simp <;> fail)) | exact .sl rfl (by first | exact Nat.le_refl _ | (simp <;> fail) | (simp; omega)) | exact .sub rfl (by first | exact Nat.le_refl _ | (simp <;> fail) | (simp; omega))) (by first | exact Nat.succ_pos _ | (simp <;> fail)) qB qB (by first | exact cl_one (f := tI) (x := _) | exact cl_one (f := tU) (x := _) | exact cl_one (f := tR) (x := ⟨_, _, _, _⟩) | exact cl_one (f := tCs) (x := ⟨_, _, _⟩) | exact cl_one (f := tOd) (x := ⟨⟨_, _⟩, _⟩) | exact cl_one (f := tRf) (x := ⟨_, _⟩) | exact cl_one (f := tOp) (x := ⟨_, _, _, ⟨_, _, _, _, _⟩⟩) | exact qN) (.push qL qN) qS ?_ | refine A_copy rfl rfl rfl Ud.h In.h rfl rfl (by first | exact Nat.le_refl _ | (simp <;> fail) | (simp; omega)) (by first | exact .nl | exact .all rfl (by first | rfl | (simp <;> fail) | (simp; omega)) | exact .lst (by first | exact each_map (fun _ => rfl) | assumption | (simp <;> fail)) | exact .ln (by first | exact each_map (fun _ => rfl) | assumption | (simp <;> fail)) | exact .sl rfl (by first | exact Nat.le_refl _ | (simp <;> fail) | (simp; omega)) | exact .sub rfl (by first | exact Nat.le_refl _ | (simp <;> fail) | (simp; omega))) (by first | omega | (simp <;> fail) | (simp; omega)) qN qN qS ?_) | (refine zkM 7 ?_; first | refine A_box rfl rfl _ _ rfl rfl (.push qL qN) ?_) | (refine zkM 18 ?_; first | refine A_extract rfl rfl _ _ rfl rfl rfl ?_) | (refine zkM 6 ?_; first | refine A_idx_sl rfl rfl _ _ _ rfl Ud.h In.h rfl rfl (by first | exact Nat.le_refl _ | (simp <;> fail) | (simp; omega)) rfl (by first | omega | (simp <;> fail) | (simp; omega)) _ qJ (by first | omega | (simp <;> fail) | (simp; omega)) ?_ | refine A_idxU rfl rfl rfl Ud.h In.h (by decide) (by first | exact .inl rfl | exact .inr rfl) rfl (by first | omega | (simp <;> fail) | (simp; omega)) qJ (by first | exact map_get (by assumption) | assumption | exact rfl | exact map_get (get_D (x := 0) (by omega))) rfl (by repeat (first | exact Tl.z | apply Tl.s)) ?_ | refine A_idx_sub rfl rfl _ _ _ rfl Ud.h In.h rfl rfl rfl (by first | omega | (simp <;> fail) | (simp; omega)) _ qJ (by first | omega | (simp <;> fail) | (simp; omega)) ?_) | (refine zkM 8 ?_; first | refine A_allocU rfl rfl rfl Zr.h (.push qL qN) ?_) | (refine zkM 19 ?_; first | refine A_pkt rfl rfl _ _ _ rfl rfl rfl ?_ | refine A_pkf rfl rfl _ _ _ rfl rfl rfl ?_ | refine A_pick rfl rfl _ _ _ rfl rfl rfl rfl rfl ?_) | (refine zkM 14 ?_; first | refine A_buildU rfl rfl rfl Bp.h Zr.h (by repeat (first | exact Parts.nil | (apply Parts.cons; exact rfl))) (by repeat (first | exact Fl.nil | (apply Fl.cons; exact rfl; exact rfl; exact (Nat.le_of_ble_eq_true rfl); exact qN))) ?_ | refine A_buildB rfl rfl rfl Ba.h Zr.h (by repeat (first | exact Parts.nil | (apply Parts.cons; exact rfl))) (by repeat (first | exact Fl.nil | (apply Fl.cons; exact rfl; exact rfl; exact (Nat.le_of_ble_eq_true rfl); exact qN))) ?_) | (refine zkM 20 ?_; first | refine A_not rfl rfl _ _ rfl rfl ?_ | refine A_neg rfl rfl _ _ rfl rfl (by first | exact wi | exact wu | rfl) ?_) | (refine zkM 17 ?_; first | refine A_conv rfl rfl _ _ _ rfl Ud.h Ud.h rfl (by first | exact wi | exact wu | rfl) ?_) | (refine zkM 5 ?_; first | refine A_getU rfl rfl rfl Ud.h qG Ud.h rfl rfl rfl ?_ | refine A_get_aggU rfl rfl rfl Ud.h qG Ud.h rfl In.h rfl qN ?_) | (refine zkM 13 ?_; first | refine A_cut_hi rfl rfl _ _ _ rfl Ud.h In.h rfl (by first | exact .no _ | exact .yes rfl (by first | omega | (simp <;> fail) | (simp; omega)) qJ) (by first | omega | (simp <;> fail) | (simp; omega)) ?_ | refine A_cut_sub rfl rfl _ _ _ _ rfl Ud.h In.h rfl rfl (by first | exact .no _ | exact .yes rfl (by first | omega | (simp <;> fail) | (simp; omega)) qJ) (by first | exact .no _ | exact .yes rfl (by first | omega | (simp <;> fail) | (simp; omega)) qJ) (by first | omega | (simp <;> fail) | (simp; omega)) (by first | omega | (simp <;> fail) | (simp; omega)) (by (try simp only [Nat.sub_zero]); rfl) ?_ | refine A_cut rfl rfl _ _ _ _ rfl Ud.h In.h rfl (by first | exact each_map (fun _ => rfl) | assumption | (simp <;> fail)) (by (try simp only [List.length_map]); rfl) (by first | exact .no _ | exact .yes rfl (by first | omega | (simp <;> fail) | (simp; omega)) qJ) (by first | exact .no _ | exact .yes rfl (by first | omega | (simp <;> fail) | (simp; omega)) qJ) (by first | omega | (simp <;> fail) | (simp; omega)) (by first | omega | (simp <;> fail) | (simp; omega)) (by first | (simp only [List.drop_zero, Nat.sub_zero, ← List.map_drop, ← List.map_take]; rfl) | rfl) ?_ | refine A_cut_t rfl rfl _ _ _ _ rfl Ud.h In.h rfl (by first | exact each_map (fun _ => rfl) | assumption | (simp <;> fail)) (by (try simp only [List.length_map]); rfl) (by first | exact .no _ | exact .yes rfl (by first | omega | (simp <;> fail) | (simp; omega)) qJ) (by first | exact .no _ | exact .yes rfl (by first | omega | (simp <;> fail) | (simp; omega)) qJ) (by first | omega | (simp <;> fail) | (simp; omega)) (by first | omega | (simp <;> fail) | (simp; omega)) (by first | (simp only [List.drop_zero, Nat.sub_zero, ← List.map_drop, ← List.map_take]; rfl) | rfl) ?_ | refine A_clip rfl rfl rfl Ud.h In.h rfl (by first | exact each_map (fun _ => rfl) | assumption | (simp <;> fail)) rfl rfl (by first | exact rfl | (simp <;> fail)) (by first | exact rfl | (simp <;> fail)) ?_) | (refine zkM 15 ?_; first | refine A_lit0 rfl rfl _ rfl Ud.h In.h ?_) | (refine zkM 21 ?_; first | refine A_fn rfl rfl _ _ _ rfl (by repeat (first | exact Args.nil | (apply Args.cons; exact rfl))) (by repeat (first | exact Args.nil | (apply Args.cons; exact rfl))) ?_) | (refine zkM 31 ?_; first | refine A_nilc rfl rfl _ rfl rfl rfl ?_ | refine A_index rfl rfl rfl Ud.h Ud.h rfl In.h rfl (by first | omega | (simp <;> fail) | (simp; omega)) qJ (by first | omega | (simp <;> fail) | (simp; omega)) rfl rfl ?_ | refine A_mkmap rfl rfl rfl (.push qL qN) ?_ | refine A_lookup rfl rfl rfl Ud.h Ud.h In.h rfl rfl rfl (by first | assumption | exact rfl) rfl rfl ?_ | refine A_mapnew rfl rfl rfl Ud.h Ud.h rfl rfl rfl rfl (by first | assumption | exact rfl) qN ?_))); exact zk.1) | fail)) : p := h ⟨k⟩
theorem uR {p q : Prop} (k : q) (h : ZK q → p := by (intro zk; first | (((with_reducible refine kRG ?_); first | (refine RG.nil ⟨by kernel_rfl, ?_⟩) | (refine R_skip rfl rfl ?_) | (refine R_skip0 rfl rfl ?_) | (first | (refine zkN 0 ?_; first | refine R_mt rfl rfl rfl rfl ?_ | refine R_move rfl rfl _ (.inl rfl) (y := .sl _ _ _) rfl ?_ | refine R_move rfl rfl _ (.inl rfl) (y := .nl) rfl ?_ | refine R_move rfl rfl _ (.inl rfl) (y := .ptr _ _) rfl ?_ | refine R_move rfl rfl _ (.inl rfl) (y := .ln _) rfl ?_ | refine R_move rfl rfl _ (.inl rfl) (y := .lp _) rfl ?_ | refine R_move rfl rfl _ (.inl rfl) (y := .fn _ _ _) rfl ?_ | refine R_move rfl rfl _ (.inl rfl) (y := .sub _ _ _ _) rfl ?_ | refine R_move rfl rfl _ (.inl rfl) (y := .rp _ _ _ _) rfl ?_ | refine R_move rfl rfl _ (.inl rfl) (y := .agg _) rfl ?_ | refine R_move rfl rfl _ (.inl rfl) (y := .tup _) rfl ?_ | refine R_move rfl rfl _ (.inl rfl) (y := .mv _) rfl ?_ | refine R_move rfl rfl _ (.inl rfl) (y := .cl _) rfl ?_) | (refine zkN 2 ?_; first | refine R_load rfl rfl _ _ rfl Ud.h rfl rfl rfl rfl ?_ | refine R_load_agg rfl rfl _ _ rfl Ud.h rfl In.h rfl rfl qN rfl ?_ | refine R_load_lp rfl rfl _ _ rfl Ud.h rfl rfl rfl ?_ | refine R_load_lp_agg rfl rfl _ _ rfl Ud.h rfl In.h rfl qN rfl ?_ | refine R_load_rp rfl rfl _ _ rfl Ud.h rfl rfl rfl (by first | exact map_get (by assumption) | assumption | exact rfl | exact map_get (get_D (x := 0) (by omega))) rfl ?_ | refine R_load_rp_aggU rfl rfl rfl Ud.h rfl In.h rfl rfl (by first | exact map_get (by assumption) | assumption | exact rfl | exact map_get (get_D (x := 0) (by omega))) (by repeat (first | exact Sk.z | apply Sk.s)) (by repeat (first | exact Tm.z | apply Tm.s)) ?_) | (refine zkN 4 ?_; first | refine R_fieldU rfl rfl rfl Ud.h qG In.h (by decide) rfl ?_) | (refine zkN 1 ?_; first | refine R_as rfl rfl rfl rfl ?_ | refine R_move rfl rfl _ (.inr rfl) (y := .sl _ _ _) rfl ?_ | refine R_move rfl rfl _ (.inr rfl) (y := .nl) rfl ?_ | refine R_move rfl rfl _ (.inr rfl) (y := .ptr _ _) rfl ?_ | refine R_move rfl rfl _ (.inr rfl) (y := .ln _) rfl ?_ | refine R_move rfl rfl _ (.inr rfl) (y := .lp _) rfl ?_ | refine R_move rfl rfl _ (.inr rfl) (y := .fn _ _ _) rfl ?_ | refine R_move rfl rfl _ (.inr rfl) (y := .sub _ _ _ _) rfl ?_ | refine R_move rfl rfl _ (.inr rfl) (y := .rp _ _ _ _) rfl ?_ | refine R_move rfl rfl _ (.inr rfl) (y := .agg _) rfl ?_ | refine R_move rfl rfl _ (.inr rfl) (y := .tup _) rfl ?_ | refine R_move rfl rfl _ (.inr rfl) (y := .mv _) rfl ?_ | refine R_move rfl rfl _ (.inr rfl) (y := .cl _) rfl ?_) | (refine zkN 9 ?_; first | refine R_add rfl rfl _ _ _ _ rfl rfl rfl (by first | exact wi | exact wu | rfl) ?_ | refine R_sub rfl rfl _ _ _ _ rfl rfl rfl (by first | exact wi | exact wu | rfl) ?_ | refine R_mul rfl rfl _ _ _ _ rfl rfl rfl (by first | exact wi | exact wu | rfl) ?_ | refine R_cmp rfl rfl (c := true) _ _ _ _ _ rfl rfl rfl (by exact congrArg some (decide_eq_true (by (try (dsimp only; fail_if_success done)); first | omega | fail))) ?_ | refine R_cmp rfl rfl (c := false) _ _ _ _ _ rfl rfl rfl (by exact congrArg some (decide_eq_false (by (try (dsimp only; fail_if_success done)); first | omega | fail))) ?_ | refine R_cmp rfl rfl _ _ _ _ _ rfl rfl rfl rfl ?_ | refine R_beq rfl rfl _ _ _ _ rfl Ud.h rfl rfl ?_ | refine R_bne rfl rfl _ _ _ _ rfl Ud.h rfl rfl ?_ | refine R_quo rfl rfl _ _ _ _ rfl rfl rfl (by first | decide | omega) (by first | exact IntWalk.i64_quo _ _ (by omega) | exact IntWalk.u64_quo _ _ (by omega) | rfl) ?_ | refine R_rem rfl rfl _ _ _ _ rfl rfl rfl (by first | decide | omega) (by first | exact IntWalk.rem_in _ _ (by omega) | rfl) ?_ | refine R_pnil rfl rfl rfl Ud.h rfl (by first | exact .inl ⟨rfl, rfl⟩ | exact .inr ⟨rfl, rfl⟩) ?_ | refine R_snil rfl rfl rfl Ud.h rfl (by first | omega | (simp <;> fail) | (simp; omega)) (by first | exact .inl ⟨rfl, rfl⟩ | exact .inr ⟨rfl, rfl⟩) ?_) | (refine zkN 3 ?_; first | refine R_store rfl rfl _ _ _ rfl In.h rfl rfl rfl rfl (Nat.le_of_ble_eq_true rfl) qN qN ?_ | refine R_store_rp rfl rfl _ _ _ rfl In.h (by decide) rfl rfl (by first | exact map_get (by assumption) | assumption | exact rfl | exact map_get (get_D (x := 0) (by omega))) rfl rfl rfl (Nat.le_of_ble_eq_true rfl) (by first | exact map_set (f := tI) (x := _) | exact map_set (f := tU) (x := _) | exact map_set (f := tR) (x := ⟨_, _, _, _⟩) | exact map_set (f := tCs) (x := ⟨_, _, _⟩) | exact map_set (f := tOd) (x := ⟨⟨_, _⟩, _⟩) | exact map_set (f := tRf) (x := ⟨_, _⟩) | exact map_set (f := tOp) (x := ⟨_, _, _, ⟨_, _, _, _, _⟩⟩) | ((try simp only [List.take_zero, List.take_succ_cons, List.drop_zero, List.drop_succ_cons, List.nil_append, List.cons_append, List.append_nil, List.length_cons, List.length_nil, List.set_cons_zero, List.set_cons_succ, List.map_cons, List.map_nil, List.take_nil, List.drop_nil, Nat.zero_add, Nat.add_zero, Nat.reduceAdd, Nat.reduceSub]); rfl)) qN ?_) | (refine zkN 12 ?_; first | refine R_len rfl rfl _ _ rfl Ud.h rfl ?_ | refine R_append rfl rfl _ _ _ rfl Ud.h In.h rfl rfl rfl (by first | exact Nat.le_refl _ | (simp <;> fail) | (simp; omega)) (by first | exact .nl | exact .all rfl (by first | rfl | (simp <;> fail) | (simp; omega)) | exact .lst (by first | exact each_map (fun _ => rfl) | assumption | (simp <;> fail)) | exact .ln (by first | exact each_map (fun _ => rfl) | assumption | (simp <;> fail)) | exact .sl rfl (by first | exact Nat.le_refl _ | (simp <;> fail) | (simp; omega)) | exact .sub rfl (by first | exact Nat.le_refl _ | (simp <;> fail) | (simp; omega))) qB qB (by first | exact app_map (by first | rfl | omega | (simp <;> fail)) | exact app_one (f := tI) (x := _) (by first | rfl | omega | (simp <;> fail)) | exact app_one (f := tU) (x := _) (by first | rfl | omega | (simp <;> fail)) | exact app_one (f := tR) (x := ⟨_, _, _, _⟩) (by first | rfl | omega | (simp <;> fail)) | exact app_one (f := tCs) (x := ⟨_, _, _⟩) (by first | rfl | omega | (simp <;> fail)) | exact app_one (f := tOd) (x := ⟨⟨_, _⟩, _⟩) (by first | rfl | omega | (simp <;> fail)) | exact app_one (f := tRf) (x := ⟨_, _⟩) (by first | rfl | omega | (simp <;> fail)) | exact app_one (f := tOp) (x := ⟨_, _, _, ⟨_, _, _, _, _⟩⟩) (by first | rfl | omega | (simp <;> fail)) | ((try simp only [List.take_zero, List.take_succ_cons, List.drop_zero, List.drop_succ_cons, List.nil_append, List.cons_append, List.append_nil, List.length_cons, List.length_nil, List.set_cons_zero, List.set_cons_succ, List.map_cons, List.map_nil, List.take_nil, List.drop_nil, Nat.zero_add, Nat.add_zero, Nat.reduceAdd, Nat.reduceSub]); rfl)) qN qS ?_ | refine R_append_nl rfl rfl _ _ _ rfl Ud.h In.h rfl rfl (by first | exact .nl | exact .all rfl (by first | rfl | (simp <;> fail) | (simp; omega)) | exact .lst (by first | exact each_map (fun _ => rfl) | assumption | (simp <;> fail)) | exact .ln (by first | exact each_map (fun _ => rfl) | assumption | (simp <;> fail)) | exact .sl rfl (by first | exact Nat.le_refl _ | (simp <;> fail) | (simp; omega)) | exact .sub rfl (by first | exact Nat.le_refl _ | (simp <;> fail) | (simp; omega))) qB qB (by first | exact (rfl : _ = List.map tI [_]) | exact (rfl : _ = List.map tU [_]) | exact (rfl : _ = List.map tR [⟨_, _, _, _⟩]) | exact (rfl : _ = List.map tCs [⟨_, _, _⟩]) | exact (rfl : _ = List.map tOd [⟨⟨_, _⟩, _⟩]) | exact (rfl : _ = List.map tRf [⟨_, _⟩]) | exact (rfl : _ = List.map tOp [⟨_, _, _, ⟨_, _, _, _, _⟩⟩]) | ((try simp only [List.take_zero, List.take_succ_cons, List.drop_zero, List.drop_succ_cons, List.nil_append, List.cons_append, List.append_nil, List.length_cons, List.length_nil, List.set_cons_zero, List.set_cons_succ, List.map_cons, List.map_nil, List.take_nil, List.drop_nil, Nat.zero_add, Nat.add_zero, Nat.reduceAdd, Nat.reduceSub]); rfl)) qh qN qS ?_ | refine R_max rfl rfl _ _ _ rfl rfl rfl ?_ | refine R_min rfl rfl _ _ _ rfl rfl rfl ?_ | refine R_append_cl rfl rfl _ _ _ rfl Ud.h In.h rfl rfl (by first | exact List.length_map _ | rfl) (by first | exact each_map (fun _ => rfl) | assumption | (simp <;> fail)) (by first | exact .nl | exact .all rfl (by first | rfl | (simp <;> fail) | (simp; omega)) | exact .lst (by first | exact each_map (fun _ => rfl) | assumption | (simp <;> fail)) | exact .ln (by first | exact each_map (fun _ => rfl) | assumption | (simp <;> fail)) | exact .sl rfl (by first | exact Nat.le_refl _ | (simp <;> fail) | (simp; omega)) | exact .sub rfl (by first | exact Nat.le_refl _ | (simp <;> fail) | (simp; omega))) (by first | exact Nat.succ_pos _ | (simp <;> fail)) qB qB (by first | exact cl_one (f := tI) (x := _) | exact cl_one (f := tU) (x := _) | exact cl_one (f := tR) (x := ⟨_, _, _, _⟩) | exact cl_one (f := tCs) (x := ⟨_, _, _⟩) | exact cl_one (f := tOd) (x := ⟨⟨_, _⟩, _⟩) | exact cl_one (f := tRf) (x := ⟨_, _⟩) | exact cl_one (f := tOp) (x := ⟨_, _, _, ⟨_, _, _, _, _⟩⟩) | exact qN) qh qN qS ?_) | (refine zkN 7 ?_; first | refine R_box rfl rfl _ _ rfl rfl qh qN ?_) | (refine zkN 18 ?_; first | refine R_extract rfl rfl _ _ rfl rfl rfl ?_) | (refine zkN 6 ?_; first | refine R_idx_sl rfl rfl _ _ _ rfl Ud.h In.h rfl rfl (by first | exact Nat.le_refl _ | (simp <;> fail) | (simp; omega)) rfl (by first | omega | (simp <;> fail) | (simp; omega)) _ qJ (by first | omega | (simp <;> fail) | (simp; omega)) ?_ | refine R_idxU rfl rfl rfl Ud.h In.h (by decide) (by first | exact .inl rfl | exact .inr rfl) rfl (by first | omega | (simp <;> fail) | (simp; omega)) qJ (by first | exact map_get (by assumption) | assumption | exact rfl | exact map_get (get_D (x := 0) (by omega))) rfl (by repeat (first | exact Tl.z | apply Tl.s)) ?_ | refine R_idx_sub rfl rfl _ _ _ rfl Ud.h In.h rfl rfl rfl (by first | omega | (simp <;> fail) | (simp; omega)) _ qJ (by first | omega | (simp <;> fail) | (simp; omega)) ?_) | (refine zkN 8 ?_; first | refine R_allocU rfl rfl rfl Zr.h qh qN ?_) | (refine zkN 19 ?_; first | refine R_pkt rfl rfl _ _ _ rfl rfl rfl ?_ | refine R_pkf rfl rfl _ _ _ rfl rfl rfl ?_ | refine R_pick rfl rfl _ _ _ rfl rfl rfl rfl rfl ?_) | (refine zkN 14 ?_; first | refine R_buildU rfl rfl rfl Bp.h Zr.h (by repeat (first | exact Parts.nil | (apply Parts.cons; exact rfl))) (by repeat (first | exact Fl.nil | (apply Fl.cons; exact rfl; exact rfl; exact (Nat.le_of_ble_eq_true rfl); exact qN))) ?_ | refine R_buildB rfl rfl rfl Ba.h Zr.h (by repeat (first | exact Parts.nil | (apply Parts.cons; exact rfl))) (by repeat (first | exact Fl.nil | (apply Fl.cons; exact rfl; exact rfl; exact (Nat.le_of_ble_eq_true rfl); exact qN))) ?_) | (refine zkN 20 ?_; first | refine R_not rfl rfl _ _ rfl rfl ?_ | refine R_neg rfl rfl _ _ rfl rfl (by first | exact wi | exact wu | rfl) ?_) | (refine zkN 17 ?_; first | refine R_conv rfl rfl _ _ _ rfl Ud.h Ud.h rfl (by first | exact wi | exact wu | rfl) ?_) | (refine zkN 5 ?_; first | refine R_getU rfl rfl rfl Ud.h qG Ud.h rfl rfl rfl ?_ | refine R_get_aggU rfl rfl rfl Ud.h qG Ud.h rfl In.h rfl qN ?_) | (refine zkN 13 ?_; first | refine R_cut_hi rfl rfl _ _ _ rfl Ud.h In.h rfl (by first | exact .no _ | exact .yes rfl (by first | omega | (simp <;> fail) | (simp; omega)) qJ) (by first | omega | (simp <;> fail) | (simp; omega)) ?_ | refine R_cut_sub rfl rfl _ _ _ _ rfl Ud.h In.h rfl rfl (by first | exact .no _ | exact .yes rfl (by first | omega | (simp <;> fail) | (simp; omega)) qJ) (by first | exact .no _ | exact .yes rfl (by first | omega | (simp <;> fail) | (simp; omega)) qJ) (by first | omega | (simp <;> fail) | (simp; omega)) (by first | omega | (simp <;> fail) | (simp; omega)) (by (try simp only [Nat.sub_zero]); rfl) ?_ | refine R_cut rfl rfl _ _ _ _ rfl Ud.h In.h rfl (by first | exact each_map (fun _ => rfl) | assumption | (simp <;> fail)) (by (try simp only [List.length_map]); rfl) (by first | exact .no _ | exact .yes rfl (by first | omega | (simp <;> fail) | (simp; omega)) qJ) (by first | exact .no _ | exact .yes rfl (by first | omega | (simp <;> fail) | (simp; omega)) qJ) (by first | omega | (simp <;> fail) | (simp; omega)) (by first | omega | (simp <;> fail) | (simp; omega)) (by first | (simp only [List.drop_zero, Nat.sub_zero, ← List.map_drop, ← List.map_take]; rfl) | rfl) ?_ | refine R_cut_t rfl rfl _ _ _ _ rfl Ud.h In.h rfl (by first | exact each_map (fun _ => rfl) | assumption | (simp <;> fail)) (by (try simp only [List.length_map]); rfl) (by first | exact .no _ | exact .yes rfl (by first | omega | (simp <;> fail) | (simp; omega)) qJ) (by first | exact .no _ | exact .yes rfl (by first | omega | (simp <;> fail) | (simp; omega)) qJ) (by first | omega | (simp <;> fail) | (simp; omega)) (by first | omega | (simp <;> fail) | (simp; omega)) (by first | (simp only [List.drop_zero, Nat.sub_zero, ← List.map_drop, ← List.map_take]; rfl) | rfl) ?_ | refine R_clip rfl rfl rfl Ud.h In.h rfl (by first | exact each_map (fun _ => rfl) | assumption | (simp <;> fail)) rfl rfl (by first | exact rfl | (simp <;> fail)) (by first | exact rfl | (simp <;> fail)) ?_) | (refine zkN 15 ?_; first | refine R_lit0 rfl rfl _ rfl Ud.h In.h ?_) | (refine zkN 21 ?_; first | refine R_fn rfl rfl _ _ _ rfl (by repeat (first | exact Args.nil | (apply Args.cons; exact rfl))) (by repeat (first | exact Args.nil | (apply Args.cons; exact rfl))) ?_) | (refine zkN 31 ?_; first | refine R_nilc rfl rfl _ rfl rfl rfl ?_ | refine R_index rfl rfl rfl Ud.h Ud.h rfl In.h rfl (by first | omega | (simp <;> fail) | (simp; omega)) qJ (by first | omega | (simp <;> fail) | (simp; omega)) rfl rfl ?_))); exact zk.1) | fail)) : p := h ⟨k⟩
theorem uC {p q : Prop} (k : q) (h : ZK q → p := by (intro zk; first | ((first | (with_reducible (first | refine wk0 ?_ | refine wk1 ?_ | refine wk2 ?_ | refine wk3 ?_ | refine wk4 ?_ | refine wk5 ?_ | refine wk6 ?_ | refine wk7 ?_ | refine wk8 (by decide) ?_ | refine wk9 ?_ | refine wka ?_ | refine wkb ?_ | refine wkc ?_ | refine wkd ?_ | refine AW.at_region _ ?_)) | refine kct rfl ?_ | refine kcf rfl ?_); exact zk.1) | fail)) : p := h ⟨k⟩
end Go.Proofs.Ytmljglphegeilaa


namespace Go.Proofs.Ytmljglphegeilaa
set_option linter.unusedVariables false
set_option linter.unusedSimpArgs false
set_option linter.unnecessarySimpa false
open Go.RowKit
@[reducible] def iu3 := Ud.mk ud3
@[reducible] def iu4 := Ud.mk ud4
@[reducible] def iu22 := Ud.mk ud22
@[reducible] def iu23 := Ud.mk ud23
@[reducible] def iu25 := Ud.mk ud25
@[reducible] def iu26 := Ud.mk ud26
@[reducible] def iu34 := Ud.mk ud34
@[reducible] def iu37 := Ud.mk ud37
@[reducible] def iu39 := Ud.mk ud39
@[reducible] def iu42 := Ud.mk ud42
@[reducible] def iu44 := Ud.mk ud44
@[reducible] def iu46 := Ud.mk ud46
attribute [instance] iu3 iu4 iu22 iu23 iu25 iu26 iu34 iu37 iu39 iu42 iu44 iu46
@[reducible] def ii3 := In.mk inf3
@[reducible] def ii4 := In.mk inf4
@[reducible] def ii22 := In.mk inf22
@[reducible] def ii23 := In.mk inf23
@[reducible] def ii25 := In.mk inf25
@[reducible] def ii26 := In.mk inf26
@[reducible] def ii34 := In.mk inf34
@[reducible] def ii37 := In.mk inf37
@[reducible] def ii39 := In.mk inf39
@[reducible] def ii42 := In.mk inf42
@[reducible] def ii44 := In.mk inf44
@[reducible] def ii46 := In.mk inf46
attribute [instance] ii3 ii4 ii22 ii23 ii25 ii26 ii34 ii37 ii39 ii42 ii44 ii46
instance : Zr Try.prog 22 [.nl] := ⟨_, _, _, inf22, rfl, rfl⟩
instance : Zr Try.prog 25 [.t (.v (.int .i64 0)), .nl, .nl] := ⟨_, _, _, inf25, rfl, rfl⟩
instance : Zr Try.prog 26 [.nl] := ⟨_, _, _, inf26, rfl, rfl⟩
instance : Zr Try.prog 34 [.t (.v (.bool false)), .t (.v (.bool false)), .t (.v (.bool false)), .t (.v (.int .i64 0)), .nl, .t (.v (.int .i64 0)), .t (.v (.int .i64 0))] := ⟨_, _, _, inf34, rfl, rfl⟩
instance : Zr Try.prog 39 [.t (.v (.int .i64 0)), .t (.v (.int .i64 0)), .t (.v (.int .i64 0)), .t (.v (.bool false)), .nl] := ⟨_, _, _, inf39, rfl, rfl⟩
instance : Zr Try.prog 44 [.t (.v (.int .i64 0)), .t (.v (.int .i64 0)), .t (.v (.int .i64 0)), .t (.v (.int .i64 0))] := ⟨_, _, _, inf44, rfl, rfl⟩
instance : Zr Try.prog 46 [.t (.v (.int .i64 0)), .t (.v (.int .i64 0)), .t (.v (.int .i64 0))] := ⟨_, _, _, inf46, rfl, rfl⟩
instance : Bp Try.prog 25 [(0, 1), (1, 1), (2, 1)] := ⟨_, ud25, by kernel_rfl⟩
instance : Bp Try.prog 34 [(0, 1), (1, 1), (2, 1), (3, 1), (4, 1), (5, 1), (6, 1)] := ⟨_, ud34, by kernel_rfl⟩
instance : Bp Try.prog 39 [(0, 1), (1, 1), (2, 1), (3, 1), (4, 1)] := ⟨_, ud39, by kernel_rfl⟩
instance : Bp Try.prog 44 [(0, 1), (1, 1), (2, 1), (3, 1)] := ⟨_, ud44, by kernel_rfl⟩
instance : Bp Try.prog 46 [(0, 1), (1, 1), (2, 1)] := ⟨_, ud46, by kernel_rfl⟩
end Go.Proofs.Ytmljglphegeilaa


namespace Go.Proofs.Ytmljglphegeilaa
set_option linter.unusedVariables false
set_option linter.unusedSimpArgs false
set_option linter.unnecessarySimpa false
open Go.RowKit
abbrev u64 (x : Int) : AV := .t (.v (.int .u64 x))
end Go.Proofs.Ytmljglphegeilaa


namespace Go.Proofs.Ytmljglphegeilaa
set_option linter.unusedVariables false
set_option linter.unusedSimpArgs false
set_option linter.unnecessarySimpa false
def plOk (h : Int) : Bool := decide (8 ≤ h ∧ h ≤ 32767)
def plP (h : Int) : Int := if plOk h then h % 8 else 0
def plG (h : Int) : Int := if plOk h then h / 8 else 0
theorem pl_yes {h : Int} (a : 8 ≤ h) (b : h ≤ 32767) : plP h = h % 8 ∧ plG h = h / 8 ∧ plOk h = true := by
  have hok : plOk h = true := decide_eq_true ⟨a, b⟩
  unfold plP plG; rw [if_pos hok, if_pos hok]; exact ⟨rfl, rfl, hok⟩
theorem pl_no {h : Int} (a : ¬ (8 ≤ h ∧ h ≤ 32767)) : plP h = 0 ∧ plG h = 0 ∧ plOk h = false := by
  have hok : plOk h = false := decide_eq_false a
  unfold plP plG; rw [hok]; exact ⟨rfl, rfl, rfl⟩
end Go.Proofs.Ytmljglphegeilaa


namespace Go.Proofs.Ytmljglphegeilaa
set_option linter.unusedVariables false
set_option linter.unusedSimpArgs false
set_option linter.unnecessarySimpa false
open Go.RowKit
set_option maxHeartbeats 32000000
attribute [local irreducible] AL AW RG Fin C Cd Cio thenQ blockQ retQ
set_option maxRecDepth 100000
theorem hplace_c (h : Int) (h1 : -9223372036854775808 ≤ h ∧ h ≤ 9223372036854775807) : Cd Try.prog 30 [i64 h] (.tup [i64 (plP h), i64 (plG h), bo (plOk h)]) [] := by
  by_cases hk : 8 ≤ h ∧ h ≤ 32767
  · rw [(pl_yes hk.1 hk.2).1, (pl_yes hk.1 hk.2).2.1, (pl_yes hk.1 hk.2).2.2]
    refine Cd.enter' Try.func30 rfl Try.ntmps30 rfl ?_
    repeat' (first | refine uA ?_ | refine uC ?_ | fail)
    all_goals first | (exfalso; omega) | (exact Fin.q Try.results30 (.cons (.tmp rfl) (.cons (.tmp rfl) (.cons (.tmp rfl) .nil))) [])
  · rw [(pl_no hk).1, (pl_no hk).2.1, (pl_no hk).2.2]
    refine Cd.enter' Try.func30 rfl Try.ntmps30 rfl ?_
    repeat' (first | ((with_reducible refine kAL ?_); (first | refine uA ?_ | refine uS 7 (fun hb => ?_) (fun hb => ?_))) | refine uC ?_ | fail)
    all_goals first | (exfalso; omega) | (exact Fin.q Try.results30 (.cons (.tmp rfl) (.cons (.tmp rfl) (.cons (.tmp rfl) .nil))) [])
end Go.Proofs.Ytmljglphegeilaa


namespace Go.Proofs.Ytmljglphegeilaa
set_option linter.unusedVariables false
set_option linter.unusedSimpArgs false
set_option linter.unnecessarySimpa false
def outOk (inn : Int) (outs : List Int) (j : Nat) : Prop := plOk (outs.getD j 0) = true ∧ outs.getD j 0 ≠ inn ∧ outs.getD j 0 ∉ outs.take j
def startOk (inn : Int) (outs : List Int) : Prop := plOk inn = true ∧ 1 ≤ outs.length ∧ outs.length ≤ 8 ∧ ∀ j, j < outs.length → outOk inn outs j
end Go.Proofs.Ytmljglphegeilaa


namespace Go.Proofs.Ytmljglphegeilaa
set_option linter.unusedVariables false
set_option linter.unusedSimpArgs false
set_option linter.unnecessarySimpa false
open Go.RowKit
set_option maxRecDepth 100000
def ixI : List Int → Int → Int
  | [], _ => -1
  | a :: l, x => if a = x then 0 else if ixI l x < 0 then -1 else ixI l x + 1
theorem ixI_at : ∀ (l : List Int) (x : Int) (j : Nat), (∀ q, q < j → l.getD q 0 ≠ x) → l[j]? = some x → ixI l x = j
  | [], _, _, _, h => by simp at h
  | a :: l, x, 0, _, h => by simp at h; simp [ixI, h]
  | a :: l, x, j + 1, h0, h => by
    have h1 := ixI_at l x j (fun q hq => by have := h0 (q + 1) (by omega); simpa using this) (by simpa using h)
    have h2 : a ≠ x := by have := h0 0 (by omega); simpa using this
    unfold ixI
    rw [if_neg h2, if_neg (by omega), h1]; rfl
theorem ixI_none : ∀ (l : List Int) (x : Int), (∀ q, q < l.length → l.getD q 0 ≠ x) → ixI l x = -1
  | [], _, _ => rfl
  | a :: l, x, h0 => by
    have h1 := ixI_none l x (fun q hq => by have := h0 (q + 1) (by simp; omega); simpa using this)
    have h2 : a ≠ x := by have := h0 0 (by simp); simpa using this
    unfold ixI
    rw [if_neg h2, if_pos (by omega)]
theorem ixI_mem : ∀ (l : List Int) (x : Int), 0 ≤ ixI l x ↔ x ∈ l
  | [], x => by simp [ixI]
  | a :: l, x => by
    have := ixI_mem l x
    unfold ixI
    by_cases h : a = x
    · simp [h]
    · rw [if_neg h]
      have h' : x ≠ a := fun e => h e.symm
      simp only [List.mem_cons, h', false_or]
      by_cases h2 : ixI l x < 0
      · rw [if_pos h2, ← this]; omega
      · rw [if_neg h2, ← this]; omega
end Go.Proofs.Ytmljglphegeilaa


namespace Go.Proofs.Ytmljglphegeilaa
set_option linter.unusedVariables false
set_option linter.unusedSimpArgs false
set_option linter.unnecessarySimpa false
open Go.RowKit
set_option maxHeartbeats 32000000
attribute [local irreducible] AL AW RG Fin C Cd Cio thenQ blockQ retQ
set_option maxRecDepth 100000
theorem indexI_c (l : List Int) (x : Int) (hl : l.length ≤ 1152921504606846976) : Cd Try.prog 31 [.ln (l.map tI), i64 x] (i64 (ixI l x)) [] := by
  have h1 : (l.map tI).length = l.length := List.length_map _
  refine Cd.enter' Try.func31 rfl Try.ntmps31 rfl ?_
  repeat' (first | refine uA ?_ | refine uC ?_ | fail)
  refine AW.loopP (fun (j : Nat) => j ≤ l.length ∧ ∀ q, q < j → l.getD q 0 ≠ x) (fun (j : Nat) => (pu (pu (pu (pu (fun _ => .any) 0 (.ln (l.map tI))) 1 (i64 x)) 7 (i64 (l.map tI).length)) 8 (i64 j))) (fun (j : Nat) => []) (fun (j : Nat) => l.length - j) (0) ?_ ?_ ?_
  · exact ⟨Nat.zero_le _, fun q hq => by omega⟩
  · exact Wk.cq 0
  · rintro j ⟨h2, h3⟩
    by_cases hj : j < l.length
    · obtain ⟨a, ha⟩ : ∃ a, l[j]? = some a := ⟨_, List.getElem?_eq_getElem hj⟩
      repeat' (first | refine uA ?_ | refine uC ?_ | refine kcp rfl (fun hc => ?_) (fun hc => ?_) | fail)
      all_goals first | (exfalso; omega) | skip
      · refine Fin.q Try.results31 (.cons (.tmp rfl) .nil) [] (hr := (.t ?_))
        rw [ixI_at l x j h3 (by rw [ha, hc])]
      · refine ⟨j + 1, ⟨by omega, fun q hq => ?_⟩, by omega, ?_⟩
        · by_cases e : q = j
          · subst e; rw [List.getD_eq_getElem?_getD, ha]; exact fun e => hc e.symm
          · exact h3 q (by omega)
        · exact Wk.cq 0
    · repeat' (first | refine uA ?_ | refine uC ?_ | fail)
      all_goals first | (exfalso; omega) | (refine Fin.q Try.results31 (.cons (.tmp rfl) .nil) [] (hr := (.t ?_)))
      rw [ixI_none l x fun q hq => h3 q (by omega)]
theorem containsI_c (l : List Int) (x : Int) (hl : l.length ≤ 1152921504606846976) : Cd Try.prog 24 [.ln (l.map tI), i64 x] (bo (decide (x ∈ l))) [] := by
  have h1 := ixI_mem l x
  refine Cd.enter' Try.func24 rfl Try.ntmps24 rfl ?_
  repeat' (first | ((with_reducible refine kAL ?_); (first | (refine kL 1002 rfl ?_; first | refine uK (indexI_c l x hl) ?_) | refine uA ?_)) | refine uC ?_ | fail)
  all_goals (refine Fin.q Try.results24 (.cons (.tmp rfl) .nil) [] (hr := (.t ?_)))
  all_goals (congr 2; rw [decide_eq_decide]; omega)
end Go.Proofs.Ytmljglphegeilaa


namespace Go.Proofs.Ytmljglphegeilaa
set_option linter.unusedVariables false
set_option linter.unusedSimpArgs false
set_option linter.unnecessarySimpa false
open Go.RowKit
set_option maxHeartbeats 32000000
attribute [local irreducible] AL AW RG Fin C Cd Cio thenQ blockQ retQ
set_option maxRecDepth 100000
theorem ints_c (a b : List Int) (ha : a.length ≤ 1152921504606846976) : Cd Try.prog 9 [.ln (a.map tI), .ln (b.map tI)] (.t (.v (.bool (decide (a = b))))) [] := by
  have h1 : (a.map tI).length = a.length := List.length_map _
  have h2 : (b.map tI).length = b.length := List.length_map _
  refine Cd.enter' Try.func9 rfl Try.ntmps9 rfl ?_
  repeat' (first | refine uA ?_ | refine uC ?_ | refine kcp rfl (fun hc => ?_) (fun hc => ?_) | fail)
  · refine Fin.q Try.results9 (.cons (.tmp rfl) .nil) [] (hr := (.t ?_))
    have : a ≠ b := by rintro rfl; exact hc rfl
    simp [this]
  · refine AW.loopP (fun (i : Nat) => ∀ j, j < i → a.getD j 0 = b.getD j 0) (fun (i : Nat) => (pu (pu (pu (pu (pu (fun _ => .any) 0 (.ln (a.map tI))) 1 (.ln (b.map tI))) 4 (.t (.v (.bool false)))) 12 (i64 (a.map tI).length)) 13 (i64 i))) (fun (i : Nat) => []) (fun (i : Nat) => a.length + 1 - i) (0) ?_ ?_ ?_
    · intro j hj; omega
    · exact Wk.cq 0
    · intro i hi
      repeat' (first | refine uA ?_ | refine uR ?_ | refine uC ?_ | refine kcp rfl (fun hc => ?_) (fun hc => ?_) | refine AW.drawU (id := 6) mixed 0 qR ?_ | fail)
      · refine Fin.q Try.results9 (.cons (.tmp rfl) .nil) [] (hr := (.t ?_))
        have : a ≠ b := by rintro rfl; exact hc rfl
        simp [this]
      · refine ⟨i + 1, fun j hj => ?_, by omega, ?_⟩
        · by_cases e : j = i
          · subst e; exact Decidable.not_not.1 hc
          · exact hi j (by omega)
        · exact Wk.cq 0
      · refine Fin.q Try.results9 (.cons (.tmp rfl) .nil) [] (hr := (.t ?_))
        have : a = b := all_eq (z := 0) (by omega) fun j hj => hi j (by omega)
        simp [this]
end Go.Proofs.Ytmljglphegeilaa


namespace Go.Proofs.Ytmljglphegeilaa
set_option linter.unusedVariables false
set_option linter.unusedSimpArgs false
set_option linter.unnecessarySimpa false
open Go.RowKit
set_option maxHeartbeats 32000000
attribute [local irreducible] AL AW RG Fin C Cd Cio thenQ blockQ retQ
set_option maxRecDepth 100000
def okI (x : Int) : Prop := -9223372036854775808 ≤ x ∧ x ≤ 9223372036854775807
theorem thandle_c (h : Int) (h1 : okI h) : Cd Try.prog 23 [i64 h] (bo (plOk h)) [] := by
  refine Cd.enter' Try.func23 rfl Try.ntmps23 rfl ?_
  repeat' (first | ((with_reducible refine kAL ?_); (first | (refine kL 970 rfl ?_; first | refine uK (hplace_c h h1) ?_) | refine uA ?_)) | refine uC ?_ | refine kcp rfl (fun hc => ?_) (fun hc => ?_) | refine kcn rfl (fun hc => ?_) (fun hc => ?_) | refine kcb rfl (fun hc => ?_) (fun hc => ?_) | refine kcc rfl (fun hc => ?_) (fun hc => ?_) | fail)
  all_goals ((first | exact Fin.q Try.results23 (.cons (.tmp rfl) .nil) [] | refine Fin.q Try.results23 (.cons (.tmp rfl) .nil) [] (hr := (.t ?_)) | refine Fin.mkv (rs := _) Try.results23 (.cons (.tmp rfl) .nil) [] (by decide) rfl ?_ ?_ ?_ <;> repeat' (skip; first | exact .nil | refine .cons rfl ?_ ?_ | refine .cons ?_ ?_ | refine .row ?_ | refine .rset ?_ | refine .box ?_ | exact .gone | refine .aggL ?_ | refine .tupL ?_ | refine .old rfl ?_ | refine .new rfl rfl rfl ?_ | exact .nl | exact .optr rfl | exact .nptr rfl rfl rfl | refine .t ?_ | exact .any _ | rfl)))
def stR (b : Bool) (inn : Int) (n : Nat) : AV := bif b then .tup [.agg [bo true, bo false, bo false, i64 inn, .sl 0 0 n, i64 0, i64 0], bo true] else .tup [.agg [bo false, bo false, bo false, i64 0, .nl, i64 0, i64 0], bo false]
def stL (b : Bool) (outs : List Int) : List Ob := bif b then [.row 0 3 1 (outs.map tI)] else []
theorem start_c (inn : Int) (outs : List Int) (hi : okI inn) (ho : ∀ x ∈ outs, okI x) (hlen : outs.length ≤ 17592186044416) (b : Bool) (hbs : b = true ↔ startOk inn outs) :
    Cd Try.prog 11 [i64 inn, .ln (outs.map tI)] (stR b inn outs.length) (stL b outs) := by
  have h1 : (outs.map tI).length = outs.length := List.length_map _
  have hno : ¬ startOk inn outs → b = false := fun h => by cases b; rfl; exact absurd (hbs.1 rfl) h
  have c0 := thandle_c inn hi
  cases hpl : plOk inn
  · have e : b = false := hno fun h => by have := h.1; rw [hpl] at this; cases this
    subst e
    rw [hpl] at c0
    refine Cd.enter' Try.func11 rfl Try.ntmps11 rfl ?_
    repeat' (first | ((with_reducible refine kAL ?_); (first | (refine kL 746 rfl ?_; first | refine uK (c0) ?_) | refine uA ?_ | refine uS 11 (fun hb => ?_) (fun hb => ?_) | refine uS 16 (fun hb => ?_) (fun hb => ?_) | refine uS 32 (fun hb => ?_) (fun hb => ?_) | refine uS 37 (fun hb => ?_) (fun hb => ?_))) | refine uC ?_ | refine kcp rfl (fun hc => ?_) (fun hc => ?_) | refine kcn rfl (fun hc => ?_) (fun hc => ?_) | refine kcb rfl (fun hc => ?_) (fun hc => ?_) | refine kcc rfl (fun hc => ?_) (fun hc => ?_) | fail)
    all_goals first | (exfalso; omega) | ((first | exact Fin.q Try.results11 (.cons (.agg rfl rfl ud34 rfl inf34 (us := [_, _, _, _, _, _, _]) rfl rfl) (.cons (.tmp rfl) .nil)) [] | refine Fin.q Try.results11 (.cons (.agg rfl rfl ud34 rfl inf34 (us := [_, _, _, _, _, _, _]) rfl rfl) (.cons (.tmp rfl) .nil)) [] (hr := (.tupL (.cons (.t ?_) (.cons (.t ?_) .nil)))) | refine Fin.mkv (rs := _) Try.results11 (.cons (.agg rfl rfl ud34 rfl inf34 (us := [_, _, _, _, _, _, _]) rfl rfl) (.cons (.tmp rfl) .nil)) [] (by decide) rfl ?_ ?_ ?_ <;> repeat' (skip; first | exact .nil | refine .cons rfl ?_ ?_ | refine .cons ?_ ?_ | refine .row ?_ | refine .rset ?_ | refine .box ?_ | exact .gone | refine .aggL ?_ | refine .tupL ?_ | refine .old rfl ?_ | refine .new rfl rfl rfl ?_ | exact .nl | exact .optr rfl | exact .nptr rfl rfl rfl | refine .t ?_ | exact .any _ | rfl)))
  rw [hpl] at c0
  refine Cd.enter' Try.func11 rfl Try.ntmps11 rfl ?_
  repeat' (first | ((with_reducible refine kAL ?_); (first | (refine kL 746 rfl ?_; first | refine uK (c0) ?_) | refine uA ?_ | refine uS 11 (fun hb => ?_) (fun hb => ?_) | refine uS 16 (fun hb => ?_) (fun hb => ?_) | refine uS 32 (fun hb => ?_) (fun hb => ?_) | refine uS 37 (fun hb => ?_) (fun hb => ?_))) | refine uC ?_ | refine kcp rfl (fun hc => ?_) (fun hc => ?_) | refine kcn rfl (fun hc => ?_) (fun hc => ?_) | refine kcb rfl (fun hc => ?_) (fun hc => ?_) | refine kcc rfl (fun hc => ?_) (fun hc => ?_) | fail)
  all_goals first | (exfalso; omega) | (have e := hno (fun h => by have := h.2.1; have := h.2.2.1; omega); subst e; ((first | exact Fin.q Try.results11 (.cons (.agg rfl rfl ud34 rfl inf34 (us := [_, _, _, _, _, _, _]) rfl rfl) (.cons (.tmp rfl) .nil)) [] | refine Fin.q Try.results11 (.cons (.agg rfl rfl ud34 rfl inf34 (us := [_, _, _, _, _, _, _]) rfl rfl) (.cons (.tmp rfl) .nil)) [] (hr := (.tupL (.cons (.t ?_) (.cons (.t ?_) .nil)))) | refine Fin.mkv (rs := _) Try.results11 (.cons (.agg rfl rfl ud34 rfl inf34 (us := [_, _, _, _, _, _, _]) rfl rfl) (.cons (.tmp rfl) .nil)) [] (by decide) rfl ?_ ?_ ?_ <;> repeat' (skip; first | exact .nil | refine .cons rfl ?_ ?_ | refine .cons ?_ ?_ | refine .row ?_ | refine .rset ?_ | refine .box ?_ | exact .gone | refine .aggL ?_ | refine .tupL ?_ | refine .old rfl ?_ | refine .new rfl rfl rfl ?_ | exact .nl | exact .optr rfl | exact .nptr rfl rfl rfl | refine .t ?_ | exact .any _ | rfl))); done) | skip
  all_goals
    refine AW.loopP (fun (x : Nat) => x ≤ outs.length ∧ ∀ j, j < x → outOk inn outs j) (fun (x : Nat) => (pu (pu (pu (pu (pu (pu (pu (fun _ => .any) 0 (i64 inn)) 1 (.ln (outs.map tI))) 4 (.ptr 0 0)) 5 (bo false)) 22 (.ln (outs.map tI))) 23 (i64 (outs.map tI).length)) 24 (i64 x))) (fun (x : Nat) => [.box 34 [bo false, bo false, bo false, i64 0, .nl, i64 0, i64 0]]) (fun (x : Nat) => outs.length - x) (0) ?_ ?_ ?_
    · exact ⟨Nat.zero_le _, fun j hj => by omega⟩
    · exact Wk.cq 1
    · rintro x ⟨h2, h3⟩
      by_cases hx : x < outs.length
      · obtain ⟨a, ha⟩ : ∃ a, outs[x]? = some a := ⟨_, List.getElem?_eq_getElem hx⟩
        have hg : outs.getD x 0 = a := by rw [List.getD_eq_getElem?_getD, ha]; rfl
        have hao := ho a (List.mem_of_getElem? ha)
        by_cases hk : outOk inn outs x
        · have hk' := hk
          unfold outOk at hk'
          rw [hg] at hk'
          have c1 := thandle_c a hao
          rw [hk'.1] at c1
          have c2 := containsI_c (outs.take x) a (by rw [List.length_take]; omega)
          rw [decide_eq_false hk'.2.2] at c2
          have hne := hk'.2.1
          repeat' (first | ((with_reducible refine kAL ?_); (first | (refine kL 746 rfl ?_; first | refine uK (c1) ?_) | (refine kL 778 rfl ?_; first | refine uK (c2) ?_) | refine uA ?_ | refine uS 11 (fun hb => ?_) (fun hb => ?_) | refine uS 16 (fun hb => ?_) (fun hb => ?_) | refine uS 32 (fun hb => ?_) (fun hb => ?_) | refine uS 37 (fun hb => ?_) (fun hb => ?_))) | refine uC ?_ | refine kcp rfl (fun hc => ?_) (fun hc => ?_) | refine kcn rfl (fun hc => ?_) (fun hc => ?_) | refine kcb rfl (fun hc => ?_) (fun hc => ?_) | refine kcc rfl (fun hc => ?_) (fun hc => ?_) | fail)
          all_goals first | (exfalso; omega) | skip
          refine ⟨x + 1, ⟨by omega, fun j hj => ?_⟩, by omega, ?_⟩
          · by_cases e : j = x
            · subst e; exact hk
            · exact h3 j (by omega)
          · exact Wk.cq 1
        · have e := hno fun h => hk (h.2.2.2 x hx)
          subst e
          unfold outOk at hk
          rw [hg] at hk
          have c1 := thandle_c a hao
          have c2 := containsI_c (outs.take x) a (by rw [List.length_take]; omega)
          cases hpa : plOk a
          · rw [hpa] at c1
            repeat' (first | ((with_reducible refine kAL ?_); (first | (refine kL 746 rfl ?_; first | refine uK (c1) ?_) | (refine kL 778 rfl ?_; first | refine uK (c2) ?_) | refine uA ?_ | refine uS 11 (fun hb => ?_) (fun hb => ?_) | refine uS 16 (fun hb => ?_) (fun hb => ?_) | refine uS 32 (fun hb => ?_) (fun hb => ?_) | refine uS 37 (fun hb => ?_) (fun hb => ?_))) | refine uC ?_ | refine kcp rfl (fun hc => ?_) (fun hc => ?_) | refine kcn rfl (fun hc => ?_) (fun hc => ?_) | refine kcb rfl (fun hc => ?_) (fun hc => ?_) | refine kcc rfl (fun hc => ?_) (fun hc => ?_) | fail)
            all_goals first | (exfalso; omega) | ((first | exact Fin.q Try.results11 (.cons (.agg rfl rfl ud34 rfl inf34 (us := [_, _, _, _, _, _, _]) rfl rfl) (.cons (.tmp rfl) .nil)) [] | refine Fin.q Try.results11 (.cons (.agg rfl rfl ud34 rfl inf34 (us := [_, _, _, _, _, _, _]) rfl rfl) (.cons (.tmp rfl) .nil)) [] (hr := (.tupL (.cons (.t ?_) (.cons (.t ?_) .nil)))) | refine Fin.mkv (rs := _) Try.results11 (.cons (.agg rfl rfl ud34 rfl inf34 (us := [_, _, _, _, _, _, _]) rfl rfl) (.cons (.tmp rfl) .nil)) [] (by decide) rfl ?_ ?_ ?_ <;> repeat' (skip; first | exact .nil | refine .cons rfl ?_ ?_ | refine .cons ?_ ?_ | refine .row ?_ | refine .rset ?_ | refine .box ?_ | exact .gone | refine .aggL ?_ | refine .tupL ?_ | refine .old rfl ?_ | refine .new rfl rfl rfl ?_ | exact .nl | exact .optr rfl | exact .nptr rfl rfl rfl | refine .t ?_ | exact .any _ | rfl)))
          · rw [hpa] at c1
            by_cases hai : a = inn
            · repeat' (first | ((with_reducible refine kAL ?_); (first | (refine kL 746 rfl ?_; first | refine uK (c1) ?_) | (refine kL 778 rfl ?_; first | refine uK (c2) ?_) | refine uA ?_ | refine uS 11 (fun hb => ?_) (fun hb => ?_) | refine uS 16 (fun hb => ?_) (fun hb => ?_) | refine uS 32 (fun hb => ?_) (fun hb => ?_) | refine uS 37 (fun hb => ?_) (fun hb => ?_))) | refine uC ?_ | refine kcp rfl (fun hc => ?_) (fun hc => ?_) | refine kcn rfl (fun hc => ?_) (fun hc => ?_) | refine kcb rfl (fun hc => ?_) (fun hc => ?_) | refine kcc rfl (fun hc => ?_) (fun hc => ?_) | fail)
              all_goals first | (exfalso; omega) | ((first | exact Fin.q Try.results11 (.cons (.agg rfl rfl ud34 rfl inf34 (us := [_, _, _, _, _, _, _]) rfl rfl) (.cons (.tmp rfl) .nil)) [] | refine Fin.q Try.results11 (.cons (.agg rfl rfl ud34 rfl inf34 (us := [_, _, _, _, _, _, _]) rfl rfl) (.cons (.tmp rfl) .nil)) [] (hr := (.tupL (.cons (.t ?_) (.cons (.t ?_) .nil)))) | refine Fin.mkv (rs := _) Try.results11 (.cons (.agg rfl rfl ud34 rfl inf34 (us := [_, _, _, _, _, _, _]) rfl rfl) (.cons (.tmp rfl) .nil)) [] (by decide) rfl ?_ ?_ ?_ <;> repeat' (skip; first | exact .nil | refine .cons rfl ?_ ?_ | refine .cons ?_ ?_ | refine .row ?_ | refine .rset ?_ | refine .box ?_ | exact .gone | refine .aggL ?_ | refine .tupL ?_ | refine .old rfl ?_ | refine .new rfl rfl rfl ?_ | exact .nl | exact .optr rfl | exact .nptr rfl rfl rfl | refine .t ?_ | exact .any _ | rfl)))
            · have hin : a ∈ outs.take x := Classical.byContradiction fun hin => hk ⟨hpa, hai, hin⟩
              rw [decide_eq_true hin] at c2
              repeat' (first | ((with_reducible refine kAL ?_); (first | (refine kL 746 rfl ?_; first | refine uK (c1) ?_) | (refine kL 778 rfl ?_; first | refine uK (c2) ?_) | refine uA ?_ | refine uS 11 (fun hb => ?_) (fun hb => ?_) | refine uS 16 (fun hb => ?_) (fun hb => ?_) | refine uS 32 (fun hb => ?_) (fun hb => ?_) | refine uS 37 (fun hb => ?_) (fun hb => ?_))) | refine uC ?_ | refine kcp rfl (fun hc => ?_) (fun hc => ?_) | refine kcn rfl (fun hc => ?_) (fun hc => ?_) | refine kcb rfl (fun hc => ?_) (fun hc => ?_) | refine kcc rfl (fun hc => ?_) (fun hc => ?_) | fail)
              all_goals first | (exfalso; omega) | ((first | exact Fin.q Try.results11 (.cons (.agg rfl rfl ud34 rfl inf34 (us := [_, _, _, _, _, _, _]) rfl rfl) (.cons (.tmp rfl) .nil)) [] | refine Fin.q Try.results11 (.cons (.agg rfl rfl ud34 rfl inf34 (us := [_, _, _, _, _, _, _]) rfl rfl) (.cons (.tmp rfl) .nil)) [] (hr := (.tupL (.cons (.t ?_) (.cons (.t ?_) .nil)))) | refine Fin.mkv (rs := _) Try.results11 (.cons (.agg rfl rfl ud34 rfl inf34 (us := [_, _, _, _, _, _, _]) rfl rfl) (.cons (.tmp rfl) .nil)) [] (by decide) rfl ?_ ?_ ?_ <;> repeat' (skip; first | exact .nil | refine .cons rfl ?_ ?_ | refine .cons ?_ ?_ | refine .row ?_ | refine .rset ?_ | refine .box ?_ | exact .gone | refine .aggL ?_ | refine .tupL ?_ | refine .old rfl ?_ | refine .new rfl rfl rfl ?_ | exact .nl | exact .optr rfl | exact .nptr rfl rfl rfl | refine .t ?_ | exact .any _ | rfl)))
      · have e : x = outs.length := by omega
        subst e
        have hb' : b = true := hbs.2 ⟨hpl, by omega, by omega, h3⟩
        subst hb'
        repeat' (first | ((with_reducible refine kAL ?_); (first | (refine kL 554 rfl ?_; first | refine uK (clone_I outs hlen) ?_) | refine uA ?_ | refine uS 11 (fun hb => ?_) (fun hb => ?_) | refine uS 16 (fun hb => ?_) (fun hb => ?_) | refine uS 32 (fun hb => ?_) (fun hb => ?_) | refine uS 37 (fun hb => ?_) (fun hb => ?_))) | refine uC ?_ | refine kcp rfl (fun hc => ?_) (fun hc => ?_) | refine kcn rfl (fun hc => ?_) (fun hc => ?_) | refine kcb rfl (fun hc => ?_) (fun hc => ?_) | refine kcc rfl (fun hc => ?_) (fun hc => ?_) | fail)
        all_goals first | (exfalso; omega) | ((first | exact Fin.q Try.results11 (.cons (.agg rfl rfl ud34 rfl inf34 (us := [_, _, _, _, _, _, _]) rfl rfl) (.cons (.tmp rfl) .nil)) [1] | refine Fin.q Try.results11 (.cons (.agg rfl rfl ud34 rfl inf34 (us := [_, _, _, _, _, _, _]) rfl rfl) (.cons (.tmp rfl) .nil)) [1] (hr := (.tupL (.cons (.t ?_) (.cons (.t ?_) .nil)))) | refine Fin.mkv (rs := _) Try.results11 (.cons (.agg rfl rfl ud34 rfl inf34 (us := [_, _, _, _, _, _, _]) rfl rfl) (.cons (.tmp rfl) .nil)) [1] (by decide) rfl ?_ ?_ ?_ <;> repeat' (skip; first | exact .nil | refine .cons rfl ?_ ?_ | refine .cons ?_ ?_ | refine .row ?_ | refine .rset ?_ | refine .box ?_ | exact .gone | refine .aggL ?_ | refine .tupL ?_ | refine .old rfl ?_ | refine .new rfl rfl rfl ?_ | exact .nl | exact .optr rfl | exact .nptr rfl rfl rfl | refine .t ?_ | exact .any _ | rfl)))
end Go.Proofs.Ytmljglphegeilaa


namespace Go.Proofs.Ytmljglphegeilaa
set_option linter.unusedVariables false
set_option linter.unusedSimpArgs false
set_option linter.unnecessarySimpa false
open Go.RowKit
set_option maxHeartbeats 32000000
attribute [local irreducible] AL AW RG Fin C Cd Cio thenQ blockQ retQ
set_option maxRecDepth 100000
end Go.Proofs.Ytmljglphegeilaa


namespace Go.Proofs.Ytmljglphegeilaa
set_option linter.unusedVariables false
set_option linter.unusedSimpArgs false
set_option linter.unnecessarySimpa false
open Go.RowKit
set_option maxHeartbeats 32000000
attribute [local irreducible] AL AW RG Fin C Cd Cio thenQ blockQ retQ
set_option maxRecDepth 100000
inductive Nx where
  | no
  | close (h : Int)
  | one (c : DCase)
def noCall (on sh ov : Bool) (at_ : Int) (n : Nat) : Bool := !on || ov || decide (at_ < 0) || decide (at_ > n) || (sh && decide (at_ = n))
def nx (on sh ov : Bool) (inn : Int) (outs : List Int) (at_ v : Int) : Nx :=
  if noCall on sh ov at_ outs.length then .no else if sh then .close (outs.getD at_.toNat 0) else if at_ = 0 then .one ⟨2, inn, 0⟩ else .one ⟨1, outs.getD (at_ - 1).toNat 0, v⟩
theorem nx_none {on sh ov : Bool} {inn at_ v : Int} {outs : List Int} (h : noCall on sh ov at_ outs.length = true) : nx on sh ov inn outs at_ v = .no := by unfold nx; rw [if_pos h]
theorem nx_close {on ov : Bool} {inn at_ v a : Int} {outs : List Int} (h : noCall on true ov at_ outs.length = false) (ha : outs.getD at_.toNat 0 = a) : nx on true ov inn outs at_ v = .close a := by unfold nx; rw [h, ha]; rfl
theorem nx_recv {on ov : Bool} {inn at_ v : Int} {outs : List Int} (h : noCall on false ov at_ outs.length = false) (h0 : at_ = 0) : nx on false ov inn outs at_ v = .one ⟨2, inn, 0⟩ := by unfold nx; rw [h, if_pos h0]; rfl
theorem nx_send {on ov : Bool} {inn at_ v a : Int} {outs : List Int} (h : noCall on false ov at_ outs.length = false) (h0 : at_ ≠ 0) (ha : outs.getD (at_ - 1).toNat 0 = a) : nx on false ov inn outs at_ v = .one ⟨1, a, v⟩ := by unfold nx; rw [h, if_neg h0, ha]; rfl
theorem noCall_f {on sh ov : Bool} {at_ : Int} {n : Nat} (h : noCall on sh ov at_ n = false) : on = true ∧ ov = false ∧ 0 ≤ at_ ∧ at_ ≤ n ∧ (sh = true → at_ < n) := by
  unfold noCall at h
  simp only [Bool.or_eq_false_iff, decide_eq_false_iff_not, Bool.not_eq_false', Bool.and_eq_false_imp] at h
  exact ⟨h.1.1.1.1, h.1.1.1.2, by omega, by omega, fun e => by have := h.2 e; omega⟩
def nxA : Nx → AV
  | .no => .tup [.agg [i64 0, i64 0, i64 0, bo false, .nl], bo false]
  | .close h => .tup [.agg [i64 4, i64 h, i64 0, bo false, .nl], bo true]
  | .one _ => .tup [.agg [i64 3, i64 0, i64 0, bo false, .sl 0 0 1], bo true]
def nxL : Nx → List Ob
  | .one c => [.row 0 46 3 [tCs c]]
  | _ => []
theorem one_c (d h v : Int) : Cd Try.prog 25 [i64 d, i64 h, i64 v] (.agg [i64 3, i64 0, i64 0, bo false, .sl 0 0 1]) [.row 0 46 3 [tCs ⟨d, h, v⟩]] := by
  refine Cd.enter' Try.func25 rfl Try.ntmps25 rfl ?_
  repeat' (first | ((with_reducible refine kAL ?_); (first | (refine kL 1199 rfl ?_; first | refine A_lit rfl rfl 37 1 _ rfl ud37 inf46 (.cons rfl .nil) (els := [[_, _, _]]) rfl (by first | exact (rfl : _ = List.map tCs [⟨d, h, v⟩]) | exact qN) rfl (Nat.ne_of_beq_eq_false rfl) (Nat.le_of_ble_eq_true rfl) (Nat.le_of_ble_eq_true rfl) (.push qL qN) ?_) | (refine kL 1251 rfl ?_; first | refine A_store_rp rfl rfl 39 _ _ rfl inf39 (by decide) rfl rfl (by first | exact map_get (by assumption) | assumption) rfl rfl rfl (Nat.le_of_ble_eq_true rfl) (by first | exact map_set (f := tCs) (x := ⟨d, h, v⟩) | exact qN) qN ?_) | refine uA ?_)) | refine uC ?_ | refine kcp rfl (fun hc => ?_) (fun hc => ?_) | refine kcn rfl (fun hc => ?_) (fun hc => ?_) | refine kcb rfl (fun hc => ?_) (fun hc => ?_) | refine kcc rfl (fun hc => ?_) (fun hc => ?_) | fail)
  all_goals ((first | exact Fin.q Try.results25 (.cons (.agg rfl rfl ud39 rfl inf39 (us := [_, _, _, _, _]) rfl rfl) .nil) [1] | refine Fin.q Try.results25 (.cons (.agg rfl rfl ud39 rfl inf39 (us := [_, _, _, _, _]) rfl rfl) .nil) [1] (hr := (.t ?_)) | refine Fin.mkv (rs := _) Try.results25 (.cons (.agg rfl rfl ud39 rfl inf39 (us := [_, _, _, _, _]) rfl rfl) .nil) [1] (by decide) rfl ?_ ?_ ?_ <;> repeat' (skip; first | exact .nil | refine .cons rfl ?_ ?_ | refine .cons ?_ ?_ | refine .row ?_ | refine .rset ?_ | refine .box ?_ | exact .gone | refine .aggL ?_ | refine .tupL ?_ | refine .old rfl ?_ | refine .new rfl rfl rfl ?_ | exact .nl | exact .optr rfl | exact .nptr rfl rfl rfl | refine .t ?_ | exact .any _ | rfl)))
set_option maxHeartbeats 8000000 in
theorem next_t (on sh ov : Bool) (inn at_ v : Int) (outs : List Int) (hlen : outs.length ≤ 17592186044415) (hat : sI at_) :
    Cd Try.prog 13 [.agg [bo on, bo sh, bo ov, i64 inn, .ln (outs.map tI), i64 at_, i64 v]] (nxA (nx on sh ov inn outs at_ v)) (nxL (nx on sh ov inn outs at_ v)) := by
  have h1 : (outs.map tI).length = outs.length := List.length_map _
  unfold sI at hat
  by_cases hat2 : 0 ≤ at_ ∧ at_ ≤ outs.length
  · obtain ⟨n, rfl⟩ : ∃ n : Nat, at_ = n := ⟨at_.toNat, by omega⟩
    by_cases hn : n = outs.length
    · have e3 := fun (i : Nat) (hi : i < outs.length) => get_D (l := outs) (x := (0 : Int)) hi
      cases on <;> cases ov <;> cases sh
      all_goals
        refine Cd.enter' Try.func13 rfl Try.ntmps13 rfl ?_
        repeat' (first | ((with_reducible refine kAL ?_); (first | (refine kL 706 rfl ?_; first | refine A_load_rp rfl rfl 22 _ rfl ud22 rfl rfl rfl (by first | exact map_get (by assumption) | assumption | exact map_get (e3 _ (by omega))) rfl ?_) | (refine kL 130 rfl ?_; first | refine A_load_rp rfl rfl 4 _ rfl ud4 rfl rfl rfl (by first | exact map_get (by assumption) | assumption | exact map_get (e3 _ (by omega))) rfl ?_) | (refine kL 98 rfl ?_; first | refine A_load_rp rfl rfl 3 _ rfl ud3 rfl rfl rfl (by first | exact map_get (by assumption) | assumption | exact map_get (e3 _ (by omega))) rfl ?_) | (refine kL 1251 rfl ?_; first | refine A_store_rp rfl rfl 39 _ _ rfl inf39 (by decide) rfl rfl (by first | exact map_get (by assumption) | assumption | exact map_get (e3 _ (by omega))) rfl rfl rfl (Nat.le_of_ble_eq_true rfl) (by first | exact map_set (f := tCs) (x := ⟨_, _, _⟩) | exact qN) qN ?_) | (refine kL 710 rfl ?_; first | refine A_idx rfl rfl 22 _ _ rfl ud22 inf3 (by decide) (by first | exact .inl rfl | exact .inr rfl) rfl (by first | omega | (simp <;> fail) | (simp; omega)) _ (by first | with_reducible exact Int.toNat_natCast _ | exact rfl) (by first | exact map_get (by assumption) | assumption | exact map_get (e3 _ (by omega))) rfl (cs' := [_]) rfl ?_) | (refine kL 810 rfl ?_; first | refine uK (one_c _ _ _) ?_) | refine uA ?_ | refine uS 12 (fun hb => ?_) (fun hb => ?_) | refine uS 16 (fun hb => ?_) (fun hb => ?_) | refine uS 21 (fun hb => ?_) (fun hb => ?_) | refine uS 31 (fun hb => ?_) (fun hb => ?_))) | ((with_reducible refine kRG ?_); (first | (refine kR 706 rfl ?_; first | refine R_load_rp rfl rfl 22 _ rfl ud22 rfl rfl rfl (by first | exact map_get (by assumption) | assumption | exact map_get (e3 _ (by omega))) rfl ?_) | (refine kR 98 rfl ?_; first | refine R_load_rp rfl rfl 3 _ rfl ud3 rfl rfl rfl (by first | exact map_get (by assumption) | assumption | exact map_get (e3 _ (by omega))) rfl ?_) | (refine kR 710 rfl ?_; first | refine R_idx rfl rfl 22 _ _ rfl ud22 inf3 (by decide) (by first | exact .inl rfl | exact .inr rfl) rfl (by first | omega | (simp <;> fail) | (simp; omega)) _ (by first | with_reducible exact Int.toNat_natCast _ | exact rfl) (by first | exact map_get (by assumption) | assumption | exact map_get (e3 _ (by omega))) rfl (cs' := [_]) rfl ?_) | (refine kR 810 rfl ?_; first | (first | refine uQ (one_c _ _ _) 0 ?_ | refine uQ (one_c _ _ _) 1 ?_ | refine uQ (one_c _ _ _) 2 ?_ | refine uQ (one_c _ _ _) 3 ?_ | refine uQ (one_c _ _ _) 4 ?_ | refine uQ (one_c _ _ _) 5 ?_ | refine uQ (one_c _ _ _) 6 ?_ | refine uQ (one_c _ _ _) 7 ?_ | refine uQ (one_c _ _ _) 8 ?_ | refine uQ (one_c _ _ _) 9 ?_ | refine uQ (one_c _ _ _) 10 ?_ | refine uQ (one_c _ _ _) 11 ?_ | refine uQ (one_c _ _ _) 12 ?_ | refine uQ (one_c _ _ _) 13 ?_)) | (refine kR 1251 rfl ?_; first | refine R_store_rp rfl rfl 39 _ _ rfl inf39 (by decide) rfl rfl (by first | exact map_get (by assumption) | assumption | exact map_get (e3 _ (by omega))) rfl rfl rfl (Nat.le_of_ble_eq_true rfl) (by first | exact map_set (f := tCs) (x := ⟨_, _, _⟩) | exact qN) qN ?_) | refine uR ?_)) | refine uC ?_ | refine kcp rfl (fun hc => ?_) (fun hc => ?_) | refine kcn rfl (fun hc => ?_) (fun hc => ?_) | refine kcb rfl (fun hc => ?_) (fun hc => ?_) | refine kcc rfl (fun hc => ?_) (fun hc => ?_) | refine AW.drawU (id := 10) mixed 1 qR ?_ | fail)
        all_goals first | (exfalso; omega) | (rw [nx_none (by simp [noCall, hn]; done)]; ((first | exact Fin.q Try.results13 (.cons (.agg rfl rfl ud39 rfl inf39 (us := [_, _, _, _, _]) rfl rfl) (.cons (.tmp rfl) .nil)) [] | refine Fin.q Try.results13 (.cons (.agg rfl rfl ud39 rfl inf39 (us := [_, _, _, _, _]) rfl rfl) (.cons (.tmp rfl) .nil)) [] (hr := (.tupL (.cons (.t ?_) (.cons (.t ?_) .nil)))) | refine Fin.mkv (rs := _) Try.results13 (.cons (.agg rfl rfl ud39 rfl inf39 (us := [_, _, _, _, _]) rfl rfl) (.cons (.tmp rfl) .nil)) [] (by decide) rfl ?_ ?_ ?_ <;> repeat' (skip; first | exact .nil | refine .cons rfl ?_ ?_ | refine .cons ?_ ?_ | refine .row ?_ | refine .rset ?_ | refine .box ?_ | exact .gone | refine .aggL ?_ | refine .tupL ?_ | refine .old rfl ?_ | refine .new rfl rfl rfl ?_ | exact .nl | exact .optr rfl | exact .nptr rfl rfl rfl | refine .t ?_ | exact .any _ | rfl))); done) | (rw [nx_recv (by simp [noCall]; omega) (by omega)]; ((first | exact Fin.q Try.results13 (.cons (.agg rfl rfl ud39 rfl inf39 (us := [_, _, _, _, _]) rfl rfl) (.cons (.tmp rfl) .nil)) [2] | refine Fin.q Try.results13 (.cons (.agg rfl rfl ud39 rfl inf39 (us := [_, _, _, _, _]) rfl rfl) (.cons (.tmp rfl) .nil)) [2] (hr := (.tupL (.cons (.t ?_) (.cons (.t ?_) .nil)))) | refine Fin.mkv (rs := _) Try.results13 (.cons (.agg rfl rfl ud39 rfl inf39 (us := [_, _, _, _, _]) rfl rfl) (.cons (.tmp rfl) .nil)) [2] (by decide) rfl ?_ ?_ ?_ <;> repeat' (skip; first | exact .nil | refine .cons rfl ?_ ?_ | refine .cons ?_ ?_ | refine .row ?_ | refine .rset ?_ | refine .box ?_ | exact .gone | refine .aggL ?_ | refine .tupL ?_ | refine .old rfl ?_ | refine .new rfl rfl rfl ?_ | exact .nl | exact .optr rfl | exact .nptr rfl rfl rfl | refine .t ?_ | exact .any _ | rfl))); done) | (rw [nx_send (by simp [noCall]; omega) (by omega) rfl]; ((first | exact Fin.q Try.results13 (.cons (.agg rfl rfl ud39 rfl inf39 (us := [_, _, _, _, _]) rfl rfl) (.cons (.tmp rfl) .nil)) [2] | refine Fin.q Try.results13 (.cons (.agg rfl rfl ud39 rfl inf39 (us := [_, _, _, _, _]) rfl rfl) (.cons (.tmp rfl) .nil)) [2] (hr := (.tupL (.cons (.t ?_) (.cons (.t ?_) .nil)))) | refine Fin.mkv (rs := _) Try.results13 (.cons (.agg rfl rfl ud39 rfl inf39 (us := [_, _, _, _, _]) rfl rfl) (.cons (.tmp rfl) .nil)) [2] (by decide) rfl ?_ ?_ ?_ <;> repeat' (skip; first | exact .nil | refine .cons rfl ?_ ?_ | refine .cons ?_ ?_ | refine .row ?_ | refine .rset ?_ | refine .box ?_ | exact .gone | refine .aggL ?_ | refine .tupL ?_ | refine .old rfl ?_ | refine .new rfl rfl rfl ?_ | exact .nl | exact .optr rfl | exact .nptr rfl rfl rfl | refine .t ?_ | exact .any _ | rfl))); done)
    · obtain ⟨a, ha⟩ : ∃ a, outs[n]? = some a := ⟨_, List.getElem?_eq_getElem (by omega)⟩
      have hg : outs.getD (n : Int).toNat 0 = a := by rw [Int.toNat_natCast, List.getD_eq_getElem?_getD, ha]; rfl
      have e3 := fun (i : Nat) (hi : i < outs.length) => get_D (l := outs) (x := (0 : Int)) hi
      cases on <;> cases ov <;> cases sh
      all_goals
        refine Cd.enter' Try.func13 rfl Try.ntmps13 rfl ?_
        repeat' (first | ((with_reducible refine kAL ?_); (first | (refine kL 706 rfl ?_; first | refine A_load_rp rfl rfl 22 _ rfl ud22 rfl rfl rfl (by first | exact map_get (by assumption) | assumption | exact map_get ha | exact map_get (e3 _ (by omega))) rfl ?_) | (refine kL 130 rfl ?_; first | refine A_load_rp rfl rfl 4 _ rfl ud4 rfl rfl rfl (by first | exact map_get (by assumption) | assumption | exact map_get ha | exact map_get (e3 _ (by omega))) rfl ?_) | (refine kL 98 rfl ?_; first | refine A_load_rp rfl rfl 3 _ rfl ud3 rfl rfl rfl (by first | exact map_get (by assumption) | assumption | exact map_get ha | exact map_get (e3 _ (by omega))) rfl ?_) | (refine kL 1251 rfl ?_; first | refine A_store_rp rfl rfl 39 _ _ rfl inf39 (by decide) rfl rfl (by first | exact map_get (by assumption) | assumption | exact map_get ha | exact map_get (e3 _ (by omega))) rfl rfl rfl (Nat.le_of_ble_eq_true rfl) (by first | exact map_set (f := tCs) (x := ⟨_, _, _⟩) | exact qN) qN ?_) | (refine kL 710 rfl ?_; first | refine A_idx rfl rfl 22 _ _ rfl ud22 inf3 (by decide) (by first | exact .inl rfl | exact .inr rfl) rfl (by first | omega | (simp <;> fail) | (simp; omega)) _ (by first | with_reducible exact Int.toNat_natCast _ | exact rfl) (by first | exact map_get (by assumption) | assumption | exact map_get ha | exact map_get (e3 _ (by omega))) rfl (cs' := [_]) rfl ?_) | (refine kL 810 rfl ?_; first | refine uK (one_c _ _ _) ?_) | refine uA ?_ | refine uS 12 (fun hb => ?_) (fun hb => ?_) | refine uS 16 (fun hb => ?_) (fun hb => ?_) | refine uS 21 (fun hb => ?_) (fun hb => ?_) | refine uS 31 (fun hb => ?_) (fun hb => ?_))) | ((with_reducible refine kRG ?_); (first | (refine kR 706 rfl ?_; first | refine R_load_rp rfl rfl 22 _ rfl ud22 rfl rfl rfl (by first | exact map_get (by assumption) | assumption | exact map_get ha | exact map_get (e3 _ (by omega))) rfl ?_) | (refine kR 98 rfl ?_; first | refine R_load_rp rfl rfl 3 _ rfl ud3 rfl rfl rfl (by first | exact map_get (by assumption) | assumption | exact map_get ha | exact map_get (e3 _ (by omega))) rfl ?_) | (refine kR 710 rfl ?_; first | refine R_idx rfl rfl 22 _ _ rfl ud22 inf3 (by decide) (by first | exact .inl rfl | exact .inr rfl) rfl (by first | omega | (simp <;> fail) | (simp; omega)) _ (by first | with_reducible exact Int.toNat_natCast _ | exact rfl) (by first | exact map_get (by assumption) | assumption | exact map_get ha | exact map_get (e3 _ (by omega))) rfl (cs' := [_]) rfl ?_) | (refine kR 810 rfl ?_; first | (first | refine uQ (one_c _ _ _) 0 ?_ | refine uQ (one_c _ _ _) 1 ?_ | refine uQ (one_c _ _ _) 2 ?_ | refine uQ (one_c _ _ _) 3 ?_ | refine uQ (one_c _ _ _) 4 ?_ | refine uQ (one_c _ _ _) 5 ?_ | refine uQ (one_c _ _ _) 6 ?_ | refine uQ (one_c _ _ _) 7 ?_ | refine uQ (one_c _ _ _) 8 ?_ | refine uQ (one_c _ _ _) 9 ?_ | refine uQ (one_c _ _ _) 10 ?_ | refine uQ (one_c _ _ _) 11 ?_ | refine uQ (one_c _ _ _) 12 ?_ | refine uQ (one_c _ _ _) 13 ?_)) | (refine kR 1251 rfl ?_; first | refine R_store_rp rfl rfl 39 _ _ rfl inf39 (by decide) rfl rfl (by first | exact map_get (by assumption) | assumption | exact map_get ha | exact map_get (e3 _ (by omega))) rfl rfl rfl (Nat.le_of_ble_eq_true rfl) (by first | exact map_set (f := tCs) (x := ⟨_, _, _⟩) | exact qN) qN ?_) | refine uR ?_)) | refine uC ?_ | refine kcp rfl (fun hc => ?_) (fun hc => ?_) | refine kcn rfl (fun hc => ?_) (fun hc => ?_) | refine kcb rfl (fun hc => ?_) (fun hc => ?_) | refine kcc rfl (fun hc => ?_) (fun hc => ?_) | refine AW.drawU (id := 10) mixed 1 qR ?_ | fail)
        all_goals first | (exfalso; omega) | (rw [nx_none (by simp [noCall]; done)]; ((first | exact Fin.q Try.results13 (.cons (.agg rfl rfl ud39 rfl inf39 (us := [_, _, _, _, _]) rfl rfl) (.cons (.tmp rfl) .nil)) [] | refine Fin.q Try.results13 (.cons (.agg rfl rfl ud39 rfl inf39 (us := [_, _, _, _, _]) rfl rfl) (.cons (.tmp rfl) .nil)) [] (hr := (.tupL (.cons (.t ?_) (.cons (.t ?_) .nil)))) | refine Fin.mkv (rs := _) Try.results13 (.cons (.agg rfl rfl ud39 rfl inf39 (us := [_, _, _, _, _]) rfl rfl) (.cons (.tmp rfl) .nil)) [] (by decide) rfl ?_ ?_ ?_ <;> repeat' (skip; first | exact .nil | refine .cons rfl ?_ ?_ | refine .cons ?_ ?_ | refine .row ?_ | refine .rset ?_ | refine .box ?_ | exact .gone | refine .aggL ?_ | refine .tupL ?_ | refine .old rfl ?_ | refine .new rfl rfl rfl ?_ | exact .nl | exact .optr rfl | exact .nptr rfl rfl rfl | refine .t ?_ | exact .any _ | rfl))); done) | (rw [nx_close (by simp [noCall]; omega) hg]; ((first | exact Fin.q Try.results13 (.cons (.agg rfl rfl ud39 rfl inf39 (us := [_, _, _, _, _]) rfl rfl) (.cons (.tmp rfl) .nil)) [] | refine Fin.q Try.results13 (.cons (.agg rfl rfl ud39 rfl inf39 (us := [_, _, _, _, _]) rfl rfl) (.cons (.tmp rfl) .nil)) [] (hr := (.tupL (.cons (.t ?_) (.cons (.t ?_) .nil)))) | refine Fin.mkv (rs := _) Try.results13 (.cons (.agg rfl rfl ud39 rfl inf39 (us := [_, _, _, _, _]) rfl rfl) (.cons (.tmp rfl) .nil)) [] (by decide) rfl ?_ ?_ ?_ <;> repeat' (skip; first | exact .nil | refine .cons rfl ?_ ?_ | refine .cons ?_ ?_ | refine .row ?_ | refine .rset ?_ | refine .box ?_ | exact .gone | refine .aggL ?_ | refine .tupL ?_ | refine .old rfl ?_ | refine .new rfl rfl rfl ?_ | exact .nl | exact .optr rfl | exact .nptr rfl rfl rfl | refine .t ?_ | exact .any _ | rfl))); done) | (rw [nx_recv (by simp [noCall]; omega) (by omega)]; ((first | exact Fin.q Try.results13 (.cons (.agg rfl rfl ud39 rfl inf39 (us := [_, _, _, _, _]) rfl rfl) (.cons (.tmp rfl) .nil)) [2] | refine Fin.q Try.results13 (.cons (.agg rfl rfl ud39 rfl inf39 (us := [_, _, _, _, _]) rfl rfl) (.cons (.tmp rfl) .nil)) [2] (hr := (.tupL (.cons (.t ?_) (.cons (.t ?_) .nil)))) | refine Fin.mkv (rs := _) Try.results13 (.cons (.agg rfl rfl ud39 rfl inf39 (us := [_, _, _, _, _]) rfl rfl) (.cons (.tmp rfl) .nil)) [2] (by decide) rfl ?_ ?_ ?_ <;> repeat' (skip; first | exact .nil | refine .cons rfl ?_ ?_ | refine .cons ?_ ?_ | refine .row ?_ | refine .rset ?_ | refine .box ?_ | exact .gone | refine .aggL ?_ | refine .tupL ?_ | refine .old rfl ?_ | refine .new rfl rfl rfl ?_ | exact .nl | exact .optr rfl | exact .nptr rfl rfl rfl | refine .t ?_ | exact .any _ | rfl))); done) | (rw [nx_send (by simp [noCall]; omega) (by omega) rfl]; ((first | exact Fin.q Try.results13 (.cons (.agg rfl rfl ud39 rfl inf39 (us := [_, _, _, _, _]) rfl rfl) (.cons (.tmp rfl) .nil)) [2] | refine Fin.q Try.results13 (.cons (.agg rfl rfl ud39 rfl inf39 (us := [_, _, _, _, _]) rfl rfl) (.cons (.tmp rfl) .nil)) [2] (hr := (.tupL (.cons (.t ?_) (.cons (.t ?_) .nil)))) | refine Fin.mkv (rs := _) Try.results13 (.cons (.agg rfl rfl ud39 rfl inf39 (us := [_, _, _, _, _]) rfl rfl) (.cons (.tmp rfl) .nil)) [2] (by decide) rfl ?_ ?_ ?_ <;> repeat' (skip; first | exact .nil | refine .cons rfl ?_ ?_ | refine .cons ?_ ?_ | refine .row ?_ | refine .rset ?_ | refine .box ?_ | exact .gone | refine .aggL ?_ | refine .tupL ?_ | refine .old rfl ?_ | refine .new rfl rfl rfl ?_ | exact .nl | exact .optr rfl | exact .nptr rfl rfl rfl | refine .t ?_ | exact .any _ | rfl))); done)
  · have e : noCall on sh ov at_ outs.length = true := by
      unfold noCall
      simp only [Bool.or_eq_true, decide_eq_true_eq]
      by_cases h0 : at_ < 0
      · exact .inl (.inl (.inr h0))
      · exact .inl (.inr (by omega))
    rw [nx_none e]
    cases on <;> cases ov <;> cases sh
    all_goals
      refine Cd.enter' Try.func13 rfl Try.ntmps13 rfl ?_
      repeat' (first | ((with_reducible refine kAL ?_); (first | refine uA ?_ | refine uS 12 (fun hb => ?_) (fun hb => ?_) | refine uS 16 (fun hb => ?_) (fun hb => ?_) | refine uS 21 (fun hb => ?_) (fun hb => ?_) | refine uS 31 (fun hb => ?_) (fun hb => ?_))) | refine uR ?_ | refine uC ?_ | refine kcp rfl (fun hc => ?_) (fun hc => ?_) | refine kcn rfl (fun hc => ?_) (fun hc => ?_) | refine kcb rfl (fun hc => ?_) (fun hc => ?_) | refine kcc rfl (fun hc => ?_) (fun hc => ?_) | refine AW.drawU (id := 10) mixed 2 qR ?_ | fail)
      all_goals first | (exfalso; omega) | ((first | exact Fin.q Try.results13 (.cons (.agg rfl rfl ud39 rfl inf39 (us := [_, _, _, _, _]) rfl rfl) (.cons (.tmp rfl) .nil)) [] | refine Fin.q Try.results13 (.cons (.agg rfl rfl ud39 rfl inf39 (us := [_, _, _, _, _]) rfl rfl) (.cons (.tmp rfl) .nil)) [] (hr := (.tupL (.cons (.t ?_) (.cons (.t ?_) .nil)))) | refine Fin.mkv (rs := _) Try.results13 (.cons (.agg rfl rfl ud39 rfl inf39 (us := [_, _, _, _, _]) rfl rfl) (.cons (.tmp rfl) .nil)) [] (by decide) rfl ?_ ?_ ?_ <;> repeat' (skip; first | exact .nil | refine .cons rfl ?_ ?_ | refine .cons ?_ ?_ | refine .row ?_ | refine .rset ?_ | refine .box ?_ | exact .gone | refine .aggL ?_ | refine .tupL ?_ | refine .old rfl ?_ | refine .new rfl rfl rfl ?_ | exact .nl | exact .optr rfl | exact .nptr rfl rfl rfl | refine .t ?_ | exact .any _ | rfl)))
end Go.Proofs.Ytmljglphegeilaa


namespace Go.Proofs.Ytmljglphegeilaa
set_option linter.unusedVariables false
set_option linter.unusedSimpArgs false
set_option linter.unnecessarySimpa false
open Go.RowKit
set_option maxHeartbeats 32000000
attribute [local irreducible] AL AW RG Fin C Cd Cio thenQ blockQ retQ
set_option maxRecDepth 100000
end Go.Proofs.Ytmljglphegeilaa


namespace Go.Proofs.Ytmljglphegeilaa
set_option linter.unusedVariables false
set_option linter.unusedSimpArgs false
set_option linter.unnecessarySimpa false
open Go.RowKit
set_option maxHeartbeats 32000000
attribute [local irreducible] AL AW RG Fin C Cd Cio thenQ blockQ retQ
set_option maxRecDepth 100000
structure PN where
  sh : Bool
  ov : Bool
  at_ : Int
  v : Int
def got (on sh ov : Bool) (at_ v : Int) (n : Nat) (code val : Int) : PN :=
  if noCall on sh ov at_ n = true ∨ code = 6 ∨ code = 11 then ⟨sh, ov, at_, v⟩ else if code = 7 then ⟨sh, true, at_, v⟩ else if sh then ⟨sh, decide (at_ + 1 = n), at_ + 1, v⟩
  else if 0 < at_ then ⟨sh, ov, if at_ + 1 > n then 0 else at_ + 1, v⟩ else if code = 0 then ⟨sh, ov, 1, val⟩ else ⟨true, ov, at_, v⟩
theorem nx_cases (on sh ov : Bool) (inn : Int) (outs : List Int) (at_ v : Int) : (noCall on sh ov at_ outs.length = true ∧ nx on sh ov inn outs at_ v = .no) ∨ (noCall on sh ov at_ outs.length = false ∧ ((∃ h, nx on sh ov inn outs at_ v = .close h) ∨ ∃ c, nx on sh ov inn outs at_ v = .one c)) := by
  cases h : noCall on sh ov at_ outs.length
  · refine .inr ⟨rfl, ?_⟩
    unfold nx; rw [h]
    cases sh
    · right
      by_cases h0 : at_ = 0
      · rw [if_pos h0]; exact ⟨_, rfl⟩
      · rw [if_neg h0]; exact ⟨_, rfl⟩
    · exact .inl ⟨_, rfl⟩
  · exact .inl ⟨rfl, nx_none h⟩
theorem turn_at {at_ : Int} {n : Nat} (h0 : 0 ≤ at_) (h1 : at_ ≤ n) : (at_ + 1) % ((n : Int) + 1) = if at_ + 1 > n then 0 else at_ + 1 := by
  by_cases h : at_ = n
  · subst h; rw [Int.emod_self, if_pos (by omega)]
  · rw [Int.emod_eq_of_lt (by omega) (by omega), if_neg (by omega)]
set_option maxHeartbeats 16000000 in
theorem got_c (on sh ov : Bool) (inn at_ v : Int) (outs : List Int) (s c code val : Int) (hlen : outs.length ≤ 17592186044415) (hat : sI at_) :
    Cd Try.prog 14 [.agg [bo on, bo sh, bo ov, i64 inn, .ln (outs.map tI), i64 at_, i64 v], .agg [i64 s, i64 c, i64 code, i64 val]]
      (.agg [bo on, bo (got on sh ov at_ v outs.length code val).sh, bo (got on sh ov at_ v outs.length code val).ov, i64 inn, .sl 0 0 outs.length, i64 (got on sh ov at_ v outs.length code val).at_, i64 (got on sh ov at_ v outs.length code val).v])
      [.row 0 3 1 (outs.map tI)] := by
  have h1 : (outs.map tI).length = outs.length := List.length_map _
  have cN := next_t on sh ov inn at_ v outs hlen hat
  unfold sI at hat
  rcases nx_cases on sh ov inn outs at_ v with ⟨hn, hx⟩ | ⟨hn, ⟨h, hx⟩ | ⟨h, hx⟩⟩
  all_goals (rw [hx] at cN; simp only [nxA, nxL] at cN)
  · have e : got on sh ov at_ v outs.length code val = ⟨sh, ov, at_, v⟩ := by unfold got; rw [if_pos (.inl hn)]
    rw [e]
    refine Cd.enter' Try.func14 rfl Try.ntmps14 rfl ?_
    repeat' (first | ((with_reducible refine kAL ?_); (first | (refine kL 554 rfl ?_; first | (refine uK (clone_I outs ?zq0) ?_; (case zq0 => omega))) | (refine kL 426 rfl ?_; first | refine uK (cN) ?_) | refine uA ?_)) | refine uC ?_ | refine kcp rfl (fun hc => ?_) (fun hc => ?_) | refine kcn rfl (fun hc => ?_) (fun hc => ?_) | refine kcb rfl (fun hc => ?_) (fun hc => ?_) | refine kcc rfl (fun hc => ?_) (fun hc => ?_) | fail)
    all_goals first | (exfalso; omega) | ((first | exact Fin.q Try.results14 (.cons (.agg rfl rfl ud34 rfl inf34 (us := [_, _, _, _, _, _, _]) rfl rfl) .nil) [4] | refine Fin.q Try.results14 (.cons (.agg rfl rfl ud34 rfl inf34 (us := [_, _, _, _, _, _, _]) rfl rfl) .nil) [4] (hr := (.t ?_)) | refine Fin.mkv (rs := _) Try.results14 (.cons (.agg rfl rfl ud34 rfl inf34 (us := [_, _, _, _, _, _, _]) rfl rfl) .nil) [4] (by decide) rfl ?_ ?_ ?_ <;> repeat' (skip; first | exact .nil | refine .cons rfl ?_ ?_ | refine .cons ?_ ?_ | refine .row ?_ | refine .rset ?_ | refine .box ?_ | exact .gone | refine .aggL ?_ | refine .tupL ?_ | refine .old rfl ?_ | refine .new rfl rfl rfl ?_ | exact .nl | exact .optr rfl | exact .nptr rfl rfl rfl | refine .t ?_ | exact .any _ | rfl)))
    all_goals simp
  all_goals
    have hf := noCall_f hn
    obtain ⟨rfl, rfl, f1, f2, f3⟩ := hf
    have ht := turn_at f1 f2
    refine Cd.enter' Try.func14 rfl Try.ntmps14 rfl ?_
    repeat' (first | ((with_reducible refine kAL ?_); (first | (refine kL 554 rfl ?_; first | (refine uK (clone_I outs ?zq0) ?_; (case zq0 => omega))) | (refine kL 426 rfl ?_; first | refine uK (cN) ?_) | refine uA ?_)) | refine uC ?_ | refine kcp rfl (fun hc => ?_) (fun hc => ?_) | refine kcn rfl (fun hc => ?_) (fun hc => ?_) | refine kcb rfl (fun hc => ?_) (fun hc => ?_) | refine kcc rfl (fun hc => ?_) (fun hc => ?_) | fail)
    all_goals first | (exfalso; omega) | ((first | exact Fin.q Try.results14 (.cons (.agg rfl rfl ud34 rfl inf34 (us := [_, _, _, _, _, _, _]) rfl rfl) .nil) [4] | refine Fin.q Try.results14 (.cons (.agg rfl rfl ud34 rfl inf34 (us := [_, _, _, _, _, _, _]) rfl rfl) .nil) [4] (hr := (.t ?_)) | refine Fin.mkv (rs := _) Try.results14 (.cons (.agg rfl rfl ud34 rfl inf34 (us := [_, _, _, _, _, _, _]) rfl rfl) .nil) [4] (by decide) rfl ?_ ?_ ?_ <;> repeat' (skip; first | exact .nil | refine .cons rfl ?_ ?_ | refine .cons ?_ ?_ | refine .row ?_ | refine .rset ?_ | refine .box ?_ | exact .gone | refine .aggL ?_ | refine .tupL ?_ | refine .old rfl ?_ | refine .new rfl rfl rfl ?_ | exact .nl | exact .optr rfl | exact .nptr rfl rfl rfl | refine .t ?_ | exact .any _ | rfl)))
    all_goals first | rfl | (simp only [got, hn]; simp [*]; done) | (simp only [got, hn]; simp [*]; omega) | skip
end Go.Proofs.Ytmljglphegeilaa


namespace Go.Proofs.Ytmljglphegeilaa
set_option linter.unusedVariables false
set_option linter.unusedSimpArgs false
set_option linter.unnecessarySimpa false
open Go.RowKit
set_option maxHeartbeats 32000000
attribute [local irreducible] AL AW RG Fin C Cd Cio thenQ blockQ retQ
set_option maxRecDepth 100000
theorem aw17S : Cd Try.prog 11 [i64 8, .ln [tI 9, tI 10]] (.tup [.agg [bo true, bo false, bo false, i64 8, .sl 0 0 2, i64 0, i64 0], bo true]) [.row 0 3 1 [tI 9, tI 10]] :=
  start_c 8 [9, 10] (by unfold okI; omega) (fun x hx => by simp at hx; unfold okI; omega) (by simp) true ⟨fun _ => ⟨rfl, by simp, by simp, fun j hj => by
    rcases j with _ | _ | j
    · exact ⟨rfl, by simp, by simp⟩
    · exact ⟨rfl, by simp, by simp⟩
    · simp at hj; omega⟩, fun _ => rfl⟩
theorem aw17N : Cd Try.prog 13 [.agg [bo true, bo false, bo false, i64 8, .ln [tI 9, tI 10], i64 0, i64 0]] (.tup [.agg [i64 3, i64 0, i64 0, bo false, .sl 0 0 1], bo true]) [.row 0 46 3 [tCs ⟨2, 8, 0⟩]] := by
  have := next_t true false false 8 0 0 [9, 10] (by simp) (by unfold sI; omega)
  rw [nx_recv (by decide) rfl] at this
  exact this
theorem aw17G : Cd Try.prog 14 [.agg [bo true, bo false, bo false, i64 8, .ln [tI 9, tI 10], i64 0, i64 0], .agg [i64 0, i64 0, i64 0, i64 7]] (.agg [bo true, bo false, bo false, i64 8, .sl 0 0 2, i64 1, i64 7]) [.row 0 3 1 [tI 9, tI 10]] :=
  got_c true false false 8 0 0 [9, 10] 0 0 0 7 (by simp) (by unfold sI; omega)
theorem aw17M : Cd Try.prog 13 [.agg [bo true, bo false, bo false, i64 8, .ln [tI 9, tI 10], i64 1, i64 7]] (.tup [.agg [i64 3, i64 0, i64 0, bo false, .sl 0 0 1], bo true]) [.row 0 46 3 [tCs ⟨1, 9, 7⟩]] := by
  have := next_t true false false 8 1 7 [9, 10] (by simp) (by unfold sI; omega)
  rw [nx_send (by decide) (by decide) rfl] at this
  exact this
set_option maxHeartbeats 4000000 in
theorem awake17_c : Cd Try.prog 12 [] (bo true) [] := by
  refine Cd.enter' Try.func12 rfl Try.ntmps12 rfl ?_
  repeat' (first | ((with_reducible refine kAL ?_); (first | (refine kL 719 rfl ?_; first | refine A_lit rfl rfl 22 2 _ rfl ud22 inf3 (.cons rfl (.cons rfl .nil)) (els := [[_], [_]]) rfl (by first | exact (rfl : _ = List.map tI [_]) | exact qN) rfl (Nat.ne_of_beq_eq_false rfl) (Nat.le_of_ble_eq_true rfl) (Nat.le_of_ble_eq_true rfl) (.push qL qN) ?_) | (refine kL 362 rfl ?_; first | refine uK (aw17S) ?_) | (refine kL 426 rfl ?_; first | refine uK (aw17N) ?_ | refine uK (aw17M) ?_) | (refine kL 458 rfl ?_; first | refine uK (aw17G) ?_) | (refine kL 1481 rfl ?_; first | refine A_eqs rfl rfl 46 46 _ _ rfl rfl rfl (by kernel_rfl) (fun w => eqs46 9998 _ _ _ _ _ _ w) (by first | exact decide_eq_true (by first | (simp only [and_true]; omega) | (simp only [and_true]; done) | omega) | exact decide_eq_false (by first | (simp only [and_true]; omega) | (simp only [and_true]; done) | omega) | rfl) ?_) | refine uA ?_ | refine uS 26 (fun hb => ?_) (fun hb => ?_) | refine uS 29 (fun hb => ?_) (fun hb => ?_) | refine uS 32 (fun hb => ?_) (fun hb => ?_) | refine uS 38 (fun hb => ?_) (fun hb => ?_) | refine uS 46 (fun hb => ?_) (fun hb => ?_) | refine uS 52 (fun hb => ?_) (fun hb => ?_))) | refine uC ?_ | refine kcp rfl (fun hc => ?_) (fun hc => ?_) | refine kcn rfl (fun hc => ?_) (fun hc => ?_) | refine kcb rfl (fun hc => ?_) (fun hc => ?_) | refine kcc rfl (fun hc => ?_) (fun hc => ?_) | fail)
  all_goals ((first | exact Fin.q Try.results12 (.cons (.tmp rfl) .nil) [] | refine Fin.q Try.results12 (.cons (.tmp rfl) .nil) [] (hr := (.t ?_)) | refine Fin.mkv (rs := _) Try.results12 (.cons (.tmp rfl) .nil) [] (by decide) rfl ?_ ?_ ?_ <;> repeat' (skip; first | exact .nil | refine .cons rfl ?_ ?_ | refine .cons ?_ ?_ | refine .row ?_ | refine .rset ?_ | refine .box ?_ | exact .gone | refine .aggL ?_ | refine .tupL ?_ | refine .old rfl ?_ | refine .new rfl rfl rfl ?_ | exact .nl | exact .optr rfl | exact .nptr rfl rfl rfl | refine .t ?_ | exact .any _ | rfl)))
end Go.Proofs.Ytmljglphegeilaa


namespace Go.Proofs.Ytmljglphegeilaa
set_option linter.unusedVariables false
set_option linter.unusedSimpArgs false
set_option linter.unnecessarySimpa false
open Go.RowKit
set_option maxHeartbeats 32000000
attribute [local irreducible] AL AW RG Fin C Cd Cio thenQ blockQ retQ
set_option maxRecDepth 100000
set_option maxHeartbeats 1000000 in
theorem begins_c (a b : List Int) (ha : a.length ≤ 1152921504606846976) (hb : b.length ≤ 1152921504606846976) :
    Cd Try.prog 15 [.ln (a.map tI), .ln (b.map tI)] (.t (.v (.bool (decide (b.length ≤ a.length ∧ a.take b.length = b))))) [] := by
  have h1 : (a.map tI).length = a.length := List.length_map _
  have h2 : (b.map tI).length = b.length := List.length_map _
  by_cases h : b.length ≤ a.length
  · refine Cd.enter' Try.func15 rfl Try.ntmps15 rfl ?_
    repeat' (first | ((with_reducible refine kAL ?_); (first | (refine kL 298 rfl ?_; first | (refine uK (ints_c (a.take _) b ?zq0) ?_; (case zq0 => simp; omega))) | refine uA ?_)) | refine uC ?_ | fail)
    all_goals first | (exfalso; omega) | (refine Fin.q Try.results15 (.cons (.tmp rfl) .nil) [] (hr := (.t ?_)))
    all_goals simp [h]
  · refine Cd.enter' Try.func15 rfl Try.ntmps15 rfl ?_
    repeat' (first | refine uA ?_ | refine uC ?_ | fail)
    all_goals first | (exfalso; omega) | (refine Fin.q Try.results15 (.cons (.tmp rfl) .nil) [] (hr := (.t ?_)))
    all_goals simp [h]
end Go.Proofs.Ytmljglphegeilaa


namespace Go.Proofs.Ytmljglphegeilaa
set_option linter.unusedVariables false
set_option linter.unusedSimpArgs false
set_option linter.unnecessarySimpa false
open Go.RowKit
set_option maxHeartbeats 4000000
section
variable {heap : List Ob} {w : World} {ρ : Rho} {Z Y : Nat → Prop}
theorem HRep.ra (h : HRep heap w ρ Z Y) {i k : Nat} {E : TypeId} {cs : List AV} (hi : heap[i]? = some (.ra k E cs)) :
    (ρ i k).s = 1 ∧ ∃ us, AVs (Val (Kn heap) ρ w Z Y) cs us ∧ (∀ u ∈ us, u.oneCell' = true) ∧ (Res.row (ρ i k).a cs.length (ρ i k).c E 1 us).holds 0 w ∧ Rs w 1 (ρ i k).a cs.length (ρ i k).c us := by
  obtain ⟨h1, us, h2, h3, h4⟩ := h.obs i _ hi
  exact ⟨h1, us, h2, h3, h4, rs_of_holds h4⟩
end
section
variable {P : Program} {ops : Array Oper} {Q : QS} {rest : List Oper} {o : Oper} {n : Fr} {T : Nat → AV} {heap : List Ob} {d : Nat}
theorem A_idx_ra (hw : wantedA n T ops o = true) (hd : o.dst = some d) (t : TypeId) (x ix : Operand) (ho : o.op = .indexAddr t x ix) {e : TypeId} (ht : P.underlying t = some (.slice e)) {z : Option Value} {bytes : Nat} (hI : (P.info? e).map (fun i => (i.zero, i.size, i.bytes)) = some (z, 1, bytes))
    {i k' m : Nat} (hx : evA n T x = .sl i k' m) {E : TypeId} {cs : List AV} (hi : heap[i]? = some (.ra k' E cs)) {kd : IntKind} {I : Int} (hix : evA n T ix = .t (.v (.int kd I))) (h0I : 0 ≤ I) (J : Nat) (hJ : I.toNat = J) (hlt : J < m) (hm : m ≤ cs.length)
    (k : AL P ops Q rest n (pu T d (.rp i k' J 0)) heap) : AL P ops Q (o :: rest) n T heap := by
  obtain rfl : I = (J : Int) := by omega
  refine AL.val hw hd (fun en a w ρ Z Y hR => ?_) k
  have hv := hR.eval x
  rw [hx] at hv
  have hvi := hR.eval ix
  rw [hix] at hvi
  obtain ⟨h1, us, h2, h3, h4, h5⟩ := hR.ok.rep.ra hi
  generalize hai : a.eval ix = vi at hvi
  generalize hax : a.eval x = vx at hv
  cases hv with
  | sl hk hcc _ =>
  cases hvi with
  | t h => cases h with
    | v h =>
    refine ⟨_, val_of (s := Instr.indexAt t (a.eval x) (a.eval ix)) (by unfold execOp; rw [ho]) (by rw [hax, hai]; exact run_idx ht hI _ m _ kd J (fun e => by have := (h5.none e).1; omega) hlt), ?_⟩
    have := Val.rp (ρ := ρ) (w := w) (Z := Z) (Y := Y) (idx := J) (off := 0) hk
    rw [h1, Nat.add_zero] at this
    exact this
theorem A_load_ra (hw : wantedA n T ops o = true) (hd : o.dst = some d) (t : TypeId) (x : Operand) (ho : o.op = .load t x) {ds : TypeDesc} (hu : P.underlying t = some ds) (hds : (match ds with | .struct _ | .array _ _ => true | _ => false) = false)
    {i k' idx : Nat} (hx : evA n T x = .rp i k' idx 0) {E : TypeId} {cs : List AV} (hi : heap[i]? = some (.ra k' E cs)) {u : AV} (hc : cs[idx]? = some u) (k : AL P ops Q rest n (pu T d u) heap) : AL P ops Q (o :: rest) n T heap := by
  refine AL.val hw hd (fun e a w ρ Z Y hR => ?_) k
  have hv := hR.eval x
  rw [hx] at hv
  obtain ⟨h1, us, h2, h3, h4, h5⟩ := hR.ok.rep.ra hi
  have hlt := get_lt hc
  rw [h2.len] at hlt
  have hq := List.getElem?_eq_getElem hlt
  generalize hav : a.eval x = v at hv
  cases hv with
  | rp hk =>
  refine ⟨us[idx], val_of (s := Instr.loadAt t (a.eval x)) (by unfold execOp; rw [ho]) ?_, h2.at_ idx u _ hc hq⟩
  rw [hav]
  refine run_load_one hu hds ?_
  rw [h1, Nat.mul_one, Nat.add_zero]
  exact h5.cells idx _ hq
theorem A_store_ra (hw : wantedA n T ops o = true) (hd : o.dst = none) (t : TypeId) (x y : Operand) (ho : o.op = .store t x y) {z : Option Value} {bytes : Nat} (hI : (P.info? t).map (fun i => (i.zero, i.size, i.bytes)) = some (z, 1, bytes))
    {i k' idx : Nat} (hx : evA n T x = .rp i k' idx 0) {E : TypeId} {cs : List AV} (hi : heap[i]? = some (.ra k' E cs)) (hlt : idx < cs.length) {u : AV} (hy : (evA n T y).flat = some [u])
    {cs' : List AV} (hc : cs.set idx u = cs') {heap' : List Ob} (hh : heap.set i (.ra k' E cs') = heap') (k : AL P ops Q rest n T heap') : AL P ops Q (o :: rest) n T heap := by
  subst hc hh
  refine AL.unit hw hd (fun e a w ρ Z Y hR => ?_) k
  have hv := hR.eval x
  rw [hx] at hv
  obtain ⟨h1, us, h2, h3, h4, h5⟩ := hR.ok.rep.ra hi
  obtain ⟨us', g1, g2, g3⟩ := (hR.eval y).flat hy
  have hl1 : us'.length = 1 := by rw [← g2.len]; rfl
  obtain ⟨v0, rfl⟩ := List.length_eq_one_iff.1 hl1
  have hs : (sizeOf t).run P w = .ok 1 w := run_size hI
  have hlu : idx < us.length := by rw [← h2.len]; exact hlt
  generalize hax : a.eval x = vx at hv
  cases hv with
  | rp hk =>
  obtain ⟨w', r1, r2, r3⟩ := run_put_any hs g1 rfl g3 (m := idx) h4 (by simp only [List.length_singleton]; omega) (fun e => by cases e)
  have he : us.take idx ++ [v0] ++ us.drop (idx + [v0].length) = us.set idx v0 := by
    rw [List.set_eq_take_append_cons_drop, if_pos hlu, List.length_singleton, List.append_assoc, List.singleton_append]
  rw [he] at r2
  have hblk : (Ob.ra k' E cs).blk ρ i = (if (ρ i k').c = 0 then none else (ρ i k').a.map (·.block)) := rfl
  have hsame : ∀ b', b' < w.heap.size → (Ob.ra k' E cs).blk ρ i ≠ some b' → w'.heap[b']? = w.heap[b']? := fun b' hb' hne => r3.block b' hb' (fun e => hne (by rw [hblk, e]))
  have hval : ∀ x v, Val (Kn heap) ρ w Z Y x v → Val (Kn (heap.set i (.ra k' E (cs.set idx u)))) ρ w' Z Y x v := fun x v hv =>
    hR.ok.rep.val (fun j k hj => ⟨hj.set hi (by exact Nat.le_refl _), rfl⟩) (fun _ h => h) (fun b' hb' => ⟨hb', hsame b' (hR.ok.rep.ylt b' hb') (hR.ok.rep.notin hi hb')⟩) hv
  refine ⟨w', ρ, Z, Y, ?_, hR.ok.turn hi (Nat.le_refl _) (fun _ _ _ => rfl) ⟨r3.os, r3.tape, r3.output⟩ r3.size hsame ⟨h1, us.set idx v0, ⟨by rw [List.length_set, List.length_set]; exact h2.len, fun j x v hj hv => ?_⟩, fun v hv => ?_, by rw [List.length_set]; exact r2⟩ (fun b' hb' => .inl hb'), hval⟩
  · unfold execOp
    simp only [ho, hax, h1, Nat.mul_one, Nat.add_zero, Sem.run_bind, r1, Result.andThen_ok, Sem.run_pure]
  · rw [List.getElem?_set] at hj hv
    by_cases e : idx = j
    · subst e
      rw [if_pos rfl, if_pos hlt] at hj
      rw [if_pos rfl, if_pos hlu] at hv
      cases hj; cases hv
      exact hval _ _ (g2.at_ 0 _ _ rfl rfl)
    · rw [if_neg e] at hj hv
      exact hval _ _ (h2.at_ j x v hj hv)
  · rcases List.mem_or_eq_of_mem_set hv with hv | rfl
    · exact h3 v hv
    · exact g3 _ (List.mem_singleton.2 rfl)
end
section
variable {n : Fr} {T : Nat → AV} {heap : List Ob}
theorem Wk.toRow (i : Nat) {k : Nat} {E : TypeId} (ts : List Tr) (hi : heap[i]? = some (.ra k E (ts.map .t))) {heap' : List Ob} (hh : heap.set i (.row k E 1 (ts.map fun x => [x])) = heap') : Wk n T heap T heap' := by
  subst hh
  rintro en a w ⟨ρ, Z, Y, hR⟩
  obtain ⟨h1, us, h2, h3, h4, h5⟩ := hR.ok.rep.ra hi
  have hl : us.length = ts.length := by rw [← h2.len, List.length_map]
  have hm : ∀ x v, Val (Kn heap) ρ w Z Y x v → Val (Kn (heap.set i (.row k E 1 (ts.map fun x => [x])))) ρ w Z Y x v := fun x v hv =>
    hv.mono (fun j k hj => ⟨hj.set hi (by exact Nat.le_refl _), rfl⟩) (fun b hb => ⟨hb, rfl⟩) (fun b hb => ⟨hb, rfl⟩)
  refine ⟨ρ, Z, Y, hR.ok.turn hi (Nat.le_refl _) (fun _ _ _ => rfl) ⟨rfl, rfl, rfl⟩ (Nat.le_refl _) (fun _ _ _ => rfl) ⟨h1, us, ⟨by rw [List.length_map, Nat.mul_one]; exact hl, fun cs h => ?_, fun i cs j x u h1 h2' h3' => ?_⟩, by rw [List.length_map]; rw [List.length_map] at h4; exact h4⟩ (fun b hb => .inl hb), hR.defers, hR.n, hR.hl, fun t v ht => hm _ _ (hR.at_ t v ht)⟩
  · obtain ⟨x, _, rfl⟩ := List.mem_map.1 h
    rfl
  · rw [List.getElem?_map] at h1
    cases hx : ts[i]? with
    | none => rw [hx] at h1; cases h1
    | some y =>
      rw [hx] at h1; cases h1
      have := get_lt h2'
      obtain rfl : j = 0 := by simp at this; omega
      cases h2'
      rw [Nat.mul_one, Nat.add_zero] at h3'
      have := h2.at_ i (.t x) u (by rw [List.getElem?_map, hx]; rfl) h3'
      cases this with
      | t h => exact h
theorem Wk.freezeRa (i : Nat) {k : Nat} {E : TypeId} {s : Nat} {els : List (List Tr)} (hi : heap[i]? = some (.row k E s els)) (j : Nat) {k2 : Nat} {t : TypeId} {cs cs' : List AV} (hj : heap[j]? = some (.ra k2 t cs)) (hr : FzL i k els cs cs') {heap' : List Ob} (hh : (heap.set i (.gone k)).set j (.ra k2 t cs') = heap') : Wk n T heap T heap' := by
  subst hh
  rintro e a w ⟨ρ, Z, Y, hR⟩
  obtain ⟨Z', Y', k1, k2', k3⟩ := hR.ok.frz hi
  have hij : i ≠ j := fun e => by subst e; rw [hi] at hj; cases hj
  have hj1 : (heap.set i (.gone k))[j]? = some (.ra k2 t cs) := by rw [List.getElem?_set, if_neg hij]; exact hj
  obtain ⟨q0, us, q1, q2, q3, q4⟩ := hR.ok.rep.ra hj
  obtain ⟨r1, r2⟩ := hr.get
  have hm2 : ∀ x v, Val (Kn (heap.set i (.gone k))) ρ w Z' Y' x v → Val (Kn ((heap.set i (.gone k)).set j (.ra k2 t cs'))) ρ w Z' Y' x v := fun x v hv =>
    hv.mono (fun j' q hj' => ⟨hj'.set hj1 (by exact Nat.le_refl _), rfl⟩) (fun b hb => ⟨hb, rfl⟩) (fun b hb => ⟨hb, rfl⟩)
  refine ⟨ρ, Z', Y', k1.turn hj1 (Nat.le_refl _) (fun _ _ _ => rfl) ⟨rfl, rfl, rfl⟩ (Nat.le_refl _) (fun _ _ _ => rfl) ⟨q0, us, ⟨by rw [← r1]; exact q1.len, fun q x u hq hu => ?_⟩, q2, by rw [← r1]; exact q3⟩ (fun b' hb' => .inl hb'), hR.defers, hR.n, hR.hl, fun t v ht => hm2 _ _ (k2' _ _ (hR.at_ t v ht))⟩
  have hlt := get_lt hq
  rw [← r1] at hlt
  exact hm2 _ _ (k3 _ _ (r2 q _ x (List.getElem?_eq_getElem hlt) hq) u (q1.at_ q _ u (List.getElem?_eq_getElem hlt) hu))
theorem FzL.refl {i k : Nat} {els : List (List Tr)} : ∀ (l : List AV), FzL i k els l l
  | [] => .nil
  | x :: l => .cons (.same x) (FzL.refl l)
end
end Go.Proofs.Ytmljglphegeilaa


namespace Go.Proofs.Ytmljglphegeilaa
set_option linter.unusedVariables false
set_option linter.unusedSimpArgs false
set_option linter.unnecessarySimpa false
open Go.RowKit
set_option maxHeartbeats 4000000
section
variable {P : Program} {ops : Array Oper} {Q : QS} {rest : List Oper} {o : Oper} {n : Fr} {T : Nat → AV} {heap : List Ob} {d : Nat}
theorem A_makeN (hw : wantedA n T ops o = true) (hd : o.dst = some d) (t : TypeId) (l c : Operand) (ho : o.op = .makeSlice t l c) {e : TypeId} (ht : P.underlying t = some (.slice e)) {z : Value} {size bytes : Nat} (hI : (P.info? e).map (fun i => (i.zero, i.size, i.bytes)) = some (some z, size, bytes)) (hzs : z.cells.size = size)
    (hz : z = .slice none 0 0) {kl kc : IntKind} {L C : Int} (hl : evA n T l = .t (.v (.int kl L))) (hc : evA n T c = .t (.v (.int kc C))) (m : Nat) (hL : L = (m : Int)) (hC : C = (m : Int)) (b2 : bytes * m ≤ 281474976710656) (b3 : m ≤ maxLen) {els' : List (List Tr)} (he : List.replicate m [Tr.v (.slice none 0 0)] = els')
    {heap' : List Ob} {N : Nat} (hat : AtL heap N [.row 0 e size els'] heap') (k : AL P ops Q rest n (pu T d (.sl N 0 m)) heap') : AL P ops Q (o :: rest) n T heap := by
  subst hL hC he
  refine AL.act hw hd (fun en a w ρ Z Y hR => ?_) k
  obtain ⟨inf, hin, hz', hsz, hby⟩ := info_of hI
  subst hsz hby
  have hrep := hR.ok.rep
  have hvl := hR.eval l
  rw [hl] at hvl
  have hvc := hR.eval c
  rw [hc] at hvc
  generalize hal : a.eval l = vl at hvl
  generalize hac : a.eval c = vc at hvc
  cases hvl with
  | t h => cases h with
    | v h => cases hvc with
      | t h' => cases h' with
        | v h' =>
        obtain ⟨w', r1, r2, r3⟩ := run_make_full (P := P) w w.heap.size t e inf z inf.size ht hin hz' rfl kl kc m b2 b3 (Nat.le_refl _)
        have hsame : ∀ b, b < w.heap.size → w'.heap[b]? = w.heap[b]? := fun b hb => r3.block b hb (by simp)
        have hzz : ∀ b, Z b → Z b ∧ w'.heap[b]? = w.heap[b]? := fun b hb => ⟨hb, hsame b (hrep.ylt b (hrep.zy b hb))⟩
        have u1 : z.cells = [Value.slice none 0 0].toArray := by rw [hz]; rfl
        have hus : [Value.slice none 0 0].length = inf.size := by rw [← hzs, u1]; rfl
        have hflat : (madeCells z.cells (m * inf.size)).toList = (List.replicate m [Value.slice none 0 0]).flatten := by
          have := made_flat (α := Unit) (enc := fun _ => [Value.slice none 0 0]) (size := inf.size) (z := z.cells) (x := ()) (by rw [u1]) hus m
          rw [this, List.flatMap_def, List.map_replicate]
        have hres : (Res.row (some ⟨w.heap.size, 0, none⟩) m m e inf.size ((List.replicate m [Value.slice none 0 0]).flatten)).holds 0 w' := by
          rw [← hflat]
          by_cases h0 : m = 0
          · exact .inl ⟨h0, h0, List.eq_nil_of_length_eq_zero (by rw [r2.1, h0]; simp)⟩
          · refine .inr ⟨by omega, r2.1, ?_⟩
            rcases r2.2 with h1 | ⟨g, cap, cur, e1, _, h5, h6, h7, h8, h9⟩
            · exact .inl h1
            · exact .inr ⟨g, cap, cur, e1, Nat.zero_le _, h5, h6, h7, h8, h9⟩
        obtain ⟨ρ', k1, k2, k3, k4⟩ := hR.ok.push1 (o := .row 0 e inf.size (List.replicate m [Tr.v (.slice none 0 0)])) hat (w' := w') (pl := ⟨some ⟨w.heap.size, 0, none⟩, m, inf.size⟩) ⟨r3.os, r3.tape, r3.output⟩ r3.size hsame
          (fun ρ' hN hρ => ⟨by rw [hN], _, Elems.replicate hus hus (fun j x u hx hu => by
              have := get_lt hx
              obtain rfl : j = 0 := by simp at this; omega
              cases hx; cases hu
              exact .v rfl) m, by rw [hN, List.length_replicate]; exact hres⟩)
          (fun b hb hb' => by
            simp at hb; subst hb
            refine ⟨Nat.le_refl _, ?_⟩
            simp only [Ob.blk] at hb'
            split at hb'
            · cases hb'
            · exact (r2.lt w.heap.size rfl).2)
        refine ⟨.slice (some ⟨w.heap.size, 0, none⟩) m m, w', ρ', Z, Y, ?_, k1, k2, ?_⟩
        · unfold execOp
          simp only [ho, hal, hac, Sem.run_bind, r1, Result.andThen_ok, Sem.run_pure]
        · have := Val.sl (Kn := Kn heap') (ρ := ρ') (w := w') (Z := Z) (Y := Y) (i := N) (k := 0) (n := m) ⟨_, hat.one, Nat.le_refl _⟩ (by rw [k3]; exact Nat.le_refl _) (by rw [k3]; intro e; cases e)
          rw [k3] at this
          exact this
theorem R_idx_ra {F : List Dl → (Nat → AV) → List Ob → Prop} {acc : List Dl} (hw : wantedA n T ops o = true) (hd : o.dst = some d) (t : TypeId) (x ix : Operand) (ho : o.op = .indexAddr t x ix) {e : TypeId} (ht : P.underlying t = some (.slice e)) {z : Option Value} {bytes : Nat} (hI : (P.info? e).map (fun i => (i.zero, i.size, i.bytes)) = some (z, 1, bytes))
    {i k' m : Nat} (hx : evA n T x = .sl i k' m) {E : TypeId} {cs : List AV} (hi : heap[i]? = some (.ra k' E cs)) {kd : IntKind} {I : Int} (hix : evA n T ix = .t (.v (.int kd I))) (h0I : 0 ≤ I) (J : Nat) (hJ : I.toNat = J) (hlt : J < m) (hm : m ≤ cs.length)
    (k : RG P ops n F rest (acc ++ [⟨some d, (.rp i k' J 0), [], [i]⟩]) (pu T d (.rp i k' J 0)) heap) : RG P ops n F (o :: rest) acc T heap := by
  exact RG.cons hd.symm (fun T' h' hT hH hlen_ => A_idx_ra (by rw [wanted_eqA hT]; exact hw) hd t x ix ho ht hI (by rw [ev_eq hT (by simp [ho, Op.operands, Call.operands])]; exact hx) (by rw [hH i (by simp)]; exact hi) (by rw [ev_eq hT (by simp [ho, Op.operands, Call.operands])]; exact hix) h0I J hJ hlt hm (AL.nil ⟨rfl, rfl, rfl⟩)) rfl rfl k
theorem R_load_ra {F : List Dl → (Nat → AV) → List Ob → Prop} {acc : List Dl} (hw : wantedA n T ops o = true) (hd : o.dst = some d) (t : TypeId) (x : Operand) (ho : o.op = .load t x) {ds : TypeDesc} (hu : P.underlying t = some ds) (hds : (match ds with | .struct _ | .array _ _ => true | _ => false) = false)
    {i k' idx : Nat} (hx : evA n T x = .rp i k' idx 0) {E : TypeId} {cs : List AV} (hi : heap[i]? = some (.ra k' E cs)) {u : AV} (hc : cs[idx]? = some u) (k : RG P ops n F rest (acc ++ [⟨some d, u, [], [i]⟩]) (pu T d u) heap) : RG P ops n F (o :: rest) acc T heap := by
  exact RG.cons hd.symm (fun T' h' hT hH hlen_ => A_load_ra (by rw [wanted_eqA hT]; exact hw) hd t x ho hu hds (by rw [ev_eq hT (by simp [ho, Op.operands, Call.operands])]; exact hx) (by rw [hH i (by simp)]; exact hi) hc (AL.nil ⟨rfl, rfl, rfl⟩)) rfl rfl k
theorem R_store_ra {F : List Dl → (Nat → AV) → List Ob → Prop} {acc : List Dl} (hw : wantedA n T ops o = true) (hd : o.dst = none) (t : TypeId) (x y : Operand) (ho : o.op = .store t x y) {z : Option Value} {bytes : Nat} (hI : (P.info? t).map (fun i => (i.zero, i.size, i.bytes)) = some (z, 1, bytes))
    {i k' idx : Nat} (hx : evA n T x = .rp i k' idx 0) {E : TypeId} {cs : List AV} (hi : heap[i]? = some (.ra k' E cs)) (hlt : idx < cs.length) {u : AV} (hy : (evA n T y).flat = some [u])
    {cs' : List AV} (hc : cs.set idx u = cs') {heap' : List Ob} (hh : heap.set i (.ra k' E cs') = heap') (k : RG P ops n F rest (acc ++ [⟨none, .any, [(i, .ra k' E cs')], [i]⟩]) T heap') : RG P ops n F (o :: rest) acc T heap := by
  exact RG.cons hd.symm (fun T' h' hT hH hlen_ => A_store_ra (by rw [wanted_eqA hT]; exact hw) hd t x y ho hI (by rw [ev_eq hT (by simp [ho, Op.operands, Call.operands])]; exact hx) (by rw [hH i (by simp)]; exact hi) hlt (by rw [ev_eq hT (by simp [ho, Op.operands, Call.operands])]; exact hy) hc rfl (AL.nil ⟨rfl, rfl, rfl⟩)) rfl (by first | rfl | exact hh) k
end
section
variable {n : Fr} {T : Nat → AV} {heap : List Ob}
theorem Wk.rowRa (i : Nat) {k : Nat} {E : TypeId} (ts : List Tr) (hi : heap[i]? = some (.row k E 1 (ts.map fun x => [x]))) {heap' : List Ob} (hh : heap.set i (.ra k E (ts.map .t)) = heap') : Wk n T heap T heap' := by
  subst hh
  rintro en a w ⟨ρ, Z, Y, hR⟩
  obtain ⟨h1, xs, h2, h3, h4⟩ := hR.ok.rep.row hi
  have hl : xs.length = ts.length := by rw [h2.len, List.length_map, Nat.mul_one]
  have hm : ∀ x v, Val (Kn heap) ρ w Z Y x v → Val (Kn (heap.set i (.ra k E (ts.map .t)))) ρ w Z Y x v := fun x v hv =>
    hv.mono (fun j k hj => ⟨hj.set hi (by exact Nat.le_refl _), rfl⟩) (fun b hb => ⟨hb, rfl⟩) (fun b hb => ⟨hb, rfl⟩)
  have hfz : ∀ (j : Nat) x u, ts[j]? = some x → xs[j]? = some u → Frz w Z x u := fun j x u hx hu => h2.at_ j [x] 0 x u (by rw [List.getElem?_map, hx]; rfl) rfl (by rw [Nat.mul_one, Nat.add_zero]; exact hu)
  refine ⟨ρ, Z, Y, hR.ok.turn hi (Nat.le_refl _) (fun _ _ _ => rfl) ⟨rfl, rfl, rfl⟩ (Nat.le_refl _) (fun _ _ _ => rfl) ⟨h1, xs, ⟨by rw [List.length_map, hl], fun j x u hj hu => ?_⟩, fun u hu => ?_, by rw [List.length_map]; rw [List.length_map] at h3; exact h3⟩ (fun b hb => .inl hb), hR.defers, hR.n, hR.hl, fun t v ht => hm _ _ (hR.at_ t v ht)⟩
  · rw [List.getElem?_map] at hj
    cases hx : ts[j]? with
    | none => rw [hx] at hj; cases hj
    | some y => rw [hx] at hj; cases hj; exact .t (hfz j y u hx hu)
  · obtain ⟨j, hj⟩ := List.getElem?_of_mem hu
    have := get_lt hj
    rw [hl] at this
    exact (hfz j _ u (List.getElem?_eq_getElem this) hj).one
theorem Wk.ownRa (i j : Nat) {k : Nat} {t : TypeId} {cs : List AV} (hi : heap[i]? = some (.ra k t cs)) (hj : cs[j]? = some (.t (.v (.slice none 0 0)))) (E : TypeId) (size : Nat) {heap1 heap' : List Ob} {N : Nat} (hat : AtL heap N [.row 0 E size []] heap1) (hh : heap1.set i (.ra k t (cs.set j (.sl N 0 0))) = heap') : Wk n T heap T heap' := by
  subst hh
  rintro en a w ⟨ρ, Z, Y, hR⟩
  obtain ⟨q0, us, q1, q2, q3, q4⟩ := hR.ok.rep.ra hi
  have hl := get_lt hj
  rw [q1.len] at hl
  have hv := q1.at_ j _ _ hj (List.getElem?_eq_getElem hl)
  have hsa : us[j] = .slice none 0 0 := by
    generalize us[j] = v at hv
    cases hv with
    | t h => cases h; rfl
  obtain ⟨ρ', k1, k2, k3, k4⟩ := hR.ok.push1 (o := .row 0 E size []) hat (w' := w) (pl := ⟨none, 0, size⟩) ⟨rfl, rfl, rfl⟩ (Nat.le_refl _) (fun _ _ => rfl)
    (fun ρ' hN hρ => ⟨by rw [hN], [], .nil, by rw [hN]; exact .inl ⟨rfl, rfl, rfl⟩⟩) (fun b _ hb => by simp [Ob.blk] at hb)
  have hi1 : heap1[i]? = some (.ra k t cs) := (hat.old hi (by simp [Ob.lim])).1
  have e0 : ρ' i k = ρ i k := k4 i k ⟨_, hi, by simp [Ob.lim]⟩
  have hm : ∀ x v, Val (Kn heap1) ρ' w Z Y x v → Val (Kn (heap1.set i (.ra k t (cs.set j (.sl N 0 0))))) ρ' w Z Y x v := fun x v hv =>
    hv.mono (fun j k hj => ⟨hj.set hi1 (by exact Nat.le_refl _), rfl⟩) (fun b hb => ⟨hb, rfl⟩) (fun b hb => ⟨hb, rfl⟩)
  refine ⟨ρ', Z, Y, k1.turn hi1 (Nat.le_refl _) (fun _ _ _ => rfl) ⟨rfl, rfl, rfl⟩ (Nat.le_refl _) (fun _ _ _ => rfl) ⟨by rw [e0]; exact q0, us, ⟨by rw [List.length_set]; exact q1.len, fun q x u hq hu => ?_⟩, q2, by rw [e0, List.length_set]; exact q3⟩ (fun b' hb' => .inl hb'), hR.defers, hR.n, hR.hl, fun t v ht => hm _ _ (k2 _ _ (hR.at_ t v ht))⟩
  rw [List.getElem?_set] at hq
  by_cases e : j = q
  · subst e
    rw [if_pos rfl, if_pos (get_lt hj)] at hq
    cases hq
    rw [List.getElem?_eq_getElem hl, hsa] at hu
    cases hu
    refine hm _ _ ?_
    have := Val.sl (Kn := Kn heap1) (ρ := ρ') (w := w) (Z := Z) (Y := Y) (i := N) (k := 0) (n := 0) ⟨_, hat.one, Nat.le_refl _⟩ (Nat.zero_le _) (by rw [k3]; intro _; rfl)
    rw [k3] at this
    exact this
  · rw [if_neg e] at hq
    exact hm _ _ (k2 _ _ (q1.at_ q x u hq hu))
theorem Wk.newRow (E : TypeId) (size : Nat) {heap' : List Ob} {N : Nat} (hat : AtL heap N [.row 0 E size []] heap') : Wk n T heap T heap' := by
  rintro en a w ⟨ρ, Z, Y, hR⟩
  obtain ⟨ρ', k1, k2, k3, k4⟩ := hR.ok.push1 (o := .row 0 E size []) hat (w' := w) (pl := ⟨none, 0, size⟩) ⟨rfl, rfl, rfl⟩ (Nat.le_refl _) (fun _ _ => rfl)
    (fun ρ' hN hρ => ⟨by rw [hN], [], .nil, by rw [hN]; exact .inl ⟨rfl, rfl, rfl⟩⟩) (fun b _ hb => by simp [Ob.blk] at hb)
  exact ⟨ρ', Z, Y, k1, hR.defers, hR.n, hR.hl, fun t v ht => k2 _ _ (hR.at_ t v ht)⟩
end
end Go.Proofs.Ytmljglphegeilaa


namespace Go.Proofs.Ytmljglphegeilaa
set_option linter.unusedVariables false
set_option linter.unusedSimpArgs false
set_option linter.unnecessarySimpa false
open Go.RowKit
section
variable {P : Program} {n : Fr} {T : Nat → AV} {heap : List Ob}
end
end Go.Proofs.Ytmljglphegeilaa


namespace Go.Proofs.Ytmljglphegeilaa
set_option linter.unusedVariables false
set_option linter.unusedSimpArgs false
set_option linter.unnecessarySimpa false
open Go.RowKit
set_option maxRecDepth 100000
section
variable {P : Program} {ops : Array Oper} {Q : QS} {rest : List Oper} {o : Oper} {n : Fr} {T : Nat → AV} {heap : List Ob} {d : Nat}
end
end Go.Proofs.Ytmljglphegeilaa


namespace Go.Proofs.Ytmljglphegeilaa
set_option linter.unusedVariables false
set_option linter.unusedSimpArgs false
set_option linter.unnecessarySimpa false
open Go.RowKit
set_option maxRecDepth 100000
set_option maxHeartbeats 8000000
def tcC (n : Nat) (ks : Nat → Nat) (rw : Nat → List Int) : List AV := (List.range n).map fun j => AV.sl (4 + j) (ks j) (rw j).length
def tSt (c : List Int) : List Tr := [.lst (c.map tI)]
theorem tc_start {nf : Fr} {T : Nat → AV} (n : Nat) (h1 : 1 ≤ n) (h8 : n ≤ 8) (b r2 r3 : Ob) : Wk nf T [b, .ra 0 22 ((List.replicate n (Tr.v (.slice none 0 0))).map .t), r2, r3] T [b, .ra 0 22 (tcC n (fun _ => 0) (fun _ => [])), r2, r3, .row 0 3 1 [], .row 0 3 1 [], .row 0 3 1 [], .row 0 3 1 [], .row 0 3 1 [], .row 0 3 1 [], .row 0 3 1 [], .row 0 3 1 []] := by
  have hn : n = 1 ∨ n = 2 ∨ n = 3 ∨ n = 4 ∨ n = 5 ∨ n = 6 ∨ n = 7 ∨ n = 8 := by omega
  rcases hn with rfl | rfl | rfl | rfl | rfl | rfl | rfl | rfl
  · exact Wk.trans (Wk.ownRa 1 0 rfl rfl 3 1 (.push rfl rfl) rfl) (Wk.trans (Wk.newRow 3 1 (.push rfl rfl)) (Wk.trans (Wk.newRow 3 1 (.push rfl rfl)) (Wk.trans (Wk.newRow 3 1 (.push rfl rfl)) (Wk.trans (Wk.newRow 3 1 (.push rfl rfl)) (Wk.trans (Wk.newRow 3 1 (.push rfl rfl)) (Wk.trans (Wk.newRow 3 1 (.push rfl rfl)) (Wk.newRow 3 1 (.push rfl rfl))))))))
  · exact Wk.trans (Wk.ownRa 1 0 rfl rfl 3 1 (.push rfl rfl) rfl) (Wk.trans (Wk.ownRa 1 1 rfl rfl 3 1 (.push rfl rfl) rfl) (Wk.trans (Wk.newRow 3 1 (.push rfl rfl)) (Wk.trans (Wk.newRow 3 1 (.push rfl rfl)) (Wk.trans (Wk.newRow 3 1 (.push rfl rfl)) (Wk.trans (Wk.newRow 3 1 (.push rfl rfl)) (Wk.trans (Wk.newRow 3 1 (.push rfl rfl)) (Wk.newRow 3 1 (.push rfl rfl))))))))
  · exact Wk.trans (Wk.ownRa 1 0 rfl rfl 3 1 (.push rfl rfl) rfl) (Wk.trans (Wk.ownRa 1 1 rfl rfl 3 1 (.push rfl rfl) rfl) (Wk.trans (Wk.ownRa 1 2 rfl rfl 3 1 (.push rfl rfl) rfl) (Wk.trans (Wk.newRow 3 1 (.push rfl rfl)) (Wk.trans (Wk.newRow 3 1 (.push rfl rfl)) (Wk.trans (Wk.newRow 3 1 (.push rfl rfl)) (Wk.trans (Wk.newRow 3 1 (.push rfl rfl)) (Wk.newRow 3 1 (.push rfl rfl))))))))
  · exact Wk.trans (Wk.ownRa 1 0 rfl rfl 3 1 (.push rfl rfl) rfl) (Wk.trans (Wk.ownRa 1 1 rfl rfl 3 1 (.push rfl rfl) rfl) (Wk.trans (Wk.ownRa 1 2 rfl rfl 3 1 (.push rfl rfl) rfl) (Wk.trans (Wk.ownRa 1 3 rfl rfl 3 1 (.push rfl rfl) rfl) (Wk.trans (Wk.newRow 3 1 (.push rfl rfl)) (Wk.trans (Wk.newRow 3 1 (.push rfl rfl)) (Wk.trans (Wk.newRow 3 1 (.push rfl rfl)) (Wk.newRow 3 1 (.push rfl rfl))))))))
  · exact Wk.trans (Wk.ownRa 1 0 rfl rfl 3 1 (.push rfl rfl) rfl) (Wk.trans (Wk.ownRa 1 1 rfl rfl 3 1 (.push rfl rfl) rfl) (Wk.trans (Wk.ownRa 1 2 rfl rfl 3 1 (.push rfl rfl) rfl) (Wk.trans (Wk.ownRa 1 3 rfl rfl 3 1 (.push rfl rfl) rfl) (Wk.trans (Wk.ownRa 1 4 rfl rfl 3 1 (.push rfl rfl) rfl) (Wk.trans (Wk.newRow 3 1 (.push rfl rfl)) (Wk.trans (Wk.newRow 3 1 (.push rfl rfl)) (Wk.newRow 3 1 (.push rfl rfl))))))))
  · exact Wk.trans (Wk.ownRa 1 0 rfl rfl 3 1 (.push rfl rfl) rfl) (Wk.trans (Wk.ownRa 1 1 rfl rfl 3 1 (.push rfl rfl) rfl) (Wk.trans (Wk.ownRa 1 2 rfl rfl 3 1 (.push rfl rfl) rfl) (Wk.trans (Wk.ownRa 1 3 rfl rfl 3 1 (.push rfl rfl) rfl) (Wk.trans (Wk.ownRa 1 4 rfl rfl 3 1 (.push rfl rfl) rfl) (Wk.trans (Wk.ownRa 1 5 rfl rfl 3 1 (.push rfl rfl) rfl) (Wk.trans (Wk.newRow 3 1 (.push rfl rfl)) (Wk.newRow 3 1 (.push rfl rfl))))))))
  · exact Wk.trans (Wk.ownRa 1 0 rfl rfl 3 1 (.push rfl rfl) rfl) (Wk.trans (Wk.ownRa 1 1 rfl rfl 3 1 (.push rfl rfl) rfl) (Wk.trans (Wk.ownRa 1 2 rfl rfl 3 1 (.push rfl rfl) rfl) (Wk.trans (Wk.ownRa 1 3 rfl rfl 3 1 (.push rfl rfl) rfl) (Wk.trans (Wk.ownRa 1 4 rfl rfl 3 1 (.push rfl rfl) rfl) (Wk.trans (Wk.ownRa 1 5 rfl rfl 3 1 (.push rfl rfl) rfl) (Wk.trans (Wk.ownRa 1 6 rfl rfl 3 1 (.push rfl rfl) rfl) (Wk.newRow 3 1 (.push rfl rfl))))))))
  · exact Wk.trans (Wk.ownRa 1 0 rfl rfl 3 1 (.push rfl rfl) rfl) (Wk.trans (Wk.ownRa 1 1 rfl rfl 3 1 (.push rfl rfl) rfl) (Wk.trans (Wk.ownRa 1 2 rfl rfl 3 1 (.push rfl rfl) rfl) (Wk.trans (Wk.ownRa 1 3 rfl rfl 3 1 (.push rfl rfl) rfl) (Wk.trans (Wk.ownRa 1 4 rfl rfl 3 1 (.push rfl rfl) rfl) (Wk.trans (Wk.ownRa 1 5 rfl rfl 3 1 (.push rfl rfl) rfl) (Wk.trans (Wk.ownRa 1 6 rfl rfl 3 1 (.push rfl rfl) rfl) (Wk.ownRa 1 7 rfl rfl 3 1 (.push rfl rfl) rfl)))))))
theorem tc_end {nf : Fr} {T : Nat → AV} (n : Nat) (h1 : 1 ≤ n) (h8 : n ≤ 8) (ks : Nat → Nat) (rw : Nat → List Int) (b r2 r3 : Ob) (ex : List Ob) : ∃ rest, Wk nf T (b :: .ra 0 22 (tcC n ks rw) :: r2 :: r3 :: .row (ks 0) 3 1 ((rw 0).map tI) :: .row (ks 1) 3 1 ((rw 1).map tI) :: .row (ks 2) 3 1 ((rw 2).map tI) :: .row (ks 3) 3 1 ((rw 3).map tI) :: .row (ks 4) 3 1 ((rw 4).map tI) :: .row (ks 5) 3 1 ((rw 5).map tI) :: .row (ks 6) 3 1 ((rw 6).map tI) :: .row (ks 7) 3 1 ((rw 7).map tI) :: ex) T (b :: .row 0 22 1 (((List.range n).map rw).map tSt) :: r2 :: r3 :: rest) := by
  have hn : n = 1 ∨ n = 2 ∨ n = 3 ∨ n = 4 ∨ n = 5 ∨ n = 6 ∨ n = 7 ∨ n = 8 := by omega
  rcases hn with rfl | rfl | rfl | rfl | rfl | rfl | rfl | rfl
  · exact ⟨_, Wk.trans (Wk.freezeRa 4 rfl 1 rfl (.cons (.all (List.length_map _)) (FzL.refl _)) rfl) (Wk.toRow 1 [Tr.lst ((rw 0).map tI)] rfl rfl)⟩
  · exact ⟨_, Wk.trans (Wk.freezeRa 4 rfl 1 rfl (.cons (.all (List.length_map _)) (FzL.refl _)) rfl) (Wk.trans (Wk.freezeRa 5 rfl 1 rfl (.cons (.same _) (.cons (.all (List.length_map _)) (FzL.refl _))) rfl) (Wk.toRow 1 [Tr.lst ((rw 0).map tI), Tr.lst ((rw 1).map tI)] rfl rfl))⟩
  · exact ⟨_, Wk.trans (Wk.freezeRa 4 rfl 1 rfl (.cons (.all (List.length_map _)) (FzL.refl _)) rfl) (Wk.trans (Wk.freezeRa 5 rfl 1 rfl (.cons (.same _) (.cons (.all (List.length_map _)) (FzL.refl _))) rfl) (Wk.trans (Wk.freezeRa 6 rfl 1 rfl (.cons (.same _) (.cons (.same _) (.cons (.all (List.length_map _)) (FzL.refl _)))) rfl) (Wk.toRow 1 [Tr.lst ((rw 0).map tI), Tr.lst ((rw 1).map tI), Tr.lst ((rw 2).map tI)] rfl rfl)))⟩
  · exact ⟨_, Wk.trans (Wk.freezeRa 4 rfl 1 rfl (.cons (.all (List.length_map _)) (FzL.refl _)) rfl) (Wk.trans (Wk.freezeRa 5 rfl 1 rfl (.cons (.same _) (.cons (.all (List.length_map _)) (FzL.refl _))) rfl) (Wk.trans (Wk.freezeRa 6 rfl 1 rfl (.cons (.same _) (.cons (.same _) (.cons (.all (List.length_map _)) (FzL.refl _)))) rfl) (Wk.trans (Wk.freezeRa 7 rfl 1 rfl (.cons (.same _) (.cons (.same _) (.cons (.same _) (.cons (.all (List.length_map _)) (FzL.refl _))))) rfl) (Wk.toRow 1 [Tr.lst ((rw 0).map tI), Tr.lst ((rw 1).map tI), Tr.lst ((rw 2).map tI), Tr.lst ((rw 3).map tI)] rfl rfl))))⟩
  · exact ⟨_, Wk.trans (Wk.freezeRa 4 rfl 1 rfl (.cons (.all (List.length_map _)) (FzL.refl _)) rfl) (Wk.trans (Wk.freezeRa 5 rfl 1 rfl (.cons (.same _) (.cons (.all (List.length_map _)) (FzL.refl _))) rfl) (Wk.trans (Wk.freezeRa 6 rfl 1 rfl (.cons (.same _) (.cons (.same _) (.cons (.all (List.length_map _)) (FzL.refl _)))) rfl) (Wk.trans (Wk.freezeRa 7 rfl 1 rfl (.cons (.same _) (.cons (.same _) (.cons (.same _) (.cons (.all (List.length_map _)) (FzL.refl _))))) rfl) (Wk.trans (Wk.freezeRa 8 rfl 1 rfl (.cons (.same _) (.cons (.same _) (.cons (.same _) (.cons (.same _) (.cons (.all (List.length_map _)) (FzL.refl _)))))) rfl) (Wk.toRow 1 [Tr.lst ((rw 0).map tI), Tr.lst ((rw 1).map tI), Tr.lst ((rw 2).map tI), Tr.lst ((rw 3).map tI), Tr.lst ((rw 4).map tI)] rfl rfl)))))⟩
  · exact ⟨_, Wk.trans (Wk.freezeRa 4 rfl 1 rfl (.cons (.all (List.length_map _)) (FzL.refl _)) rfl) (Wk.trans (Wk.freezeRa 5 rfl 1 rfl (.cons (.same _) (.cons (.all (List.length_map _)) (FzL.refl _))) rfl) (Wk.trans (Wk.freezeRa 6 rfl 1 rfl (.cons (.same _) (.cons (.same _) (.cons (.all (List.length_map _)) (FzL.refl _)))) rfl) (Wk.trans (Wk.freezeRa 7 rfl 1 rfl (.cons (.same _) (.cons (.same _) (.cons (.same _) (.cons (.all (List.length_map _)) (FzL.refl _))))) rfl) (Wk.trans (Wk.freezeRa 8 rfl 1 rfl (.cons (.same _) (.cons (.same _) (.cons (.same _) (.cons (.same _) (.cons (.all (List.length_map _)) (FzL.refl _)))))) rfl) (Wk.trans (Wk.freezeRa 9 rfl 1 rfl (.cons (.same _) (.cons (.same _) (.cons (.same _) (.cons (.same _) (.cons (.same _) (.cons (.all (List.length_map _)) (FzL.refl _))))))) rfl) (Wk.toRow 1 [Tr.lst ((rw 0).map tI), Tr.lst ((rw 1).map tI), Tr.lst ((rw 2).map tI), Tr.lst ((rw 3).map tI), Tr.lst ((rw 4).map tI), Tr.lst ((rw 5).map tI)] rfl rfl))))))⟩
  · exact ⟨_, Wk.trans (Wk.freezeRa 4 rfl 1 rfl (.cons (.all (List.length_map _)) (FzL.refl _)) rfl) (Wk.trans (Wk.freezeRa 5 rfl 1 rfl (.cons (.same _) (.cons (.all (List.length_map _)) (FzL.refl _))) rfl) (Wk.trans (Wk.freezeRa 6 rfl 1 rfl (.cons (.same _) (.cons (.same _) (.cons (.all (List.length_map _)) (FzL.refl _)))) rfl) (Wk.trans (Wk.freezeRa 7 rfl 1 rfl (.cons (.same _) (.cons (.same _) (.cons (.same _) (.cons (.all (List.length_map _)) (FzL.refl _))))) rfl) (Wk.trans (Wk.freezeRa 8 rfl 1 rfl (.cons (.same _) (.cons (.same _) (.cons (.same _) (.cons (.same _) (.cons (.all (List.length_map _)) (FzL.refl _)))))) rfl) (Wk.trans (Wk.freezeRa 9 rfl 1 rfl (.cons (.same _) (.cons (.same _) (.cons (.same _) (.cons (.same _) (.cons (.same _) (.cons (.all (List.length_map _)) (FzL.refl _))))))) rfl) (Wk.trans (Wk.freezeRa 10 rfl 1 rfl (.cons (.same _) (.cons (.same _) (.cons (.same _) (.cons (.same _) (.cons (.same _) (.cons (.same _) (.cons (.all (List.length_map _)) (FzL.refl _)))))))) rfl) (Wk.toRow 1 [Tr.lst ((rw 0).map tI), Tr.lst ((rw 1).map tI), Tr.lst ((rw 2).map tI), Tr.lst ((rw 3).map tI), Tr.lst ((rw 4).map tI), Tr.lst ((rw 5).map tI), Tr.lst ((rw 6).map tI)] rfl rfl)))))))⟩
  · exact ⟨_, Wk.trans (Wk.freezeRa 4 rfl 1 rfl (.cons (.all (List.length_map _)) (FzL.refl _)) rfl) (Wk.trans (Wk.freezeRa 5 rfl 1 rfl (.cons (.same _) (.cons (.all (List.length_map _)) (FzL.refl _))) rfl) (Wk.trans (Wk.freezeRa 6 rfl 1 rfl (.cons (.same _) (.cons (.same _) (.cons (.all (List.length_map _)) (FzL.refl _)))) rfl) (Wk.trans (Wk.freezeRa 7 rfl 1 rfl (.cons (.same _) (.cons (.same _) (.cons (.same _) (.cons (.all (List.length_map _)) (FzL.refl _))))) rfl) (Wk.trans (Wk.freezeRa 8 rfl 1 rfl (.cons (.same _) (.cons (.same _) (.cons (.same _) (.cons (.same _) (.cons (.all (List.length_map _)) (FzL.refl _)))))) rfl) (Wk.trans (Wk.freezeRa 9 rfl 1 rfl (.cons (.same _) (.cons (.same _) (.cons (.same _) (.cons (.same _) (.cons (.same _) (.cons (.all (List.length_map _)) (FzL.refl _))))))) rfl) (Wk.trans (Wk.freezeRa 10 rfl 1 rfl (.cons (.same _) (.cons (.same _) (.cons (.same _) (.cons (.same _) (.cons (.same _) (.cons (.same _) (.cons (.all (List.length_map _)) (FzL.refl _)))))))) rfl) (Wk.trans (Wk.freezeRa 11 rfl 1 rfl (.cons (.same _) (.cons (.same _) (.cons (.same _) (.cons (.same _) (.cons (.same _) (.cons (.same _) (.cons (.same _) (.cons (.all (List.length_map _)) (FzL.refl _))))))))) rfl) (Wk.toRow 1 [Tr.lst ((rw 0).map tI), Tr.lst ((rw 1).map tI), Tr.lst ((rw 2).map tI), Tr.lst ((rw 3).map tI), Tr.lst ((rw 4).map tI), Tr.lst ((rw 5).map tI), Tr.lst ((rw 6).map tI), Tr.lst ((rw 7).map tI)] rfl rfl))))))))⟩
end Go.Proofs.Ytmljglphegeilaa

