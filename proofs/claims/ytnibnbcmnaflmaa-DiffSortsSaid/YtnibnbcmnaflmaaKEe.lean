/- Joined: XLD, XTEnc, XTData. -/
import Derived.Test.YtnibnbcmnaflmaaKEc
import Derived.Test.YtnibnbcmnaflmaaRows
import Derived.Deep.Slices
import Derived.SizedLaws
import Derived.Below
import Derived.Carry
import Derived.ChangeSame
import Derived.Handed
import Derived.JoinedOf
import Derived.ProofKit
import Derived.OpenShut
import Derived.JoinedCond
import Derived.Deep.CondSized
import Derived.Lib.SmallJoins
import Derived.Test.YtnibnbcmnaflmaaKEd
namespace Go.Proofs.Ytnibnbcmnaflmaa
set_option linter.unusedVariables false
set_option linter.unusedSimpArgs false
set_option linter.unnecessarySimpa false
open Go.RowKit Go.ChangeShapes Go.WideShapes
def Opens {H : Type} (enc : TypeId × Value → H) (P : Program) (w : World) (t : TypeId) {α : Type} (f : α → List Tr) (s : α → Prop) (bk : α → Nat) : Prop :=
 ∀ (n : Nat) (cs : List Value) (x : DataW H × List MemPlace), DataW.trod enc P w 0 (fun _ => true) true n t cs = some x →
  ∃ a, cs.length = (f a).length ∧ ((∀ m ∈ x.1.weights P t, m ≤ reachBytes) → s a) ∧ bk a ≤ Rows.uptoBulk x.1 ∧ ∀ (j : Nat) tr u, (f a)[j]? = some tr → cs[j]? = some u → Frz w (fun b => b < w.heap.size) tr u
theorem Opens.int {H : Type} {enc : TypeId × Value → H} {P : Program} {w : World} {t : TypeId} {k : IntKind} (ht : P.underlying t = some (.int k)) : Opens enc P w t (fun x : Int => [.v (.int k x)]) (fun x => (Lit.int k x).wf = true) (fun _ => 1) := by
 intro n cs x h
 obtain ⟨a, rfl, rfl, hw⟩ := DataW.trod_int ht h
 refine ⟨a, rfl, fun _ => hw, Nat.le_refl _, fun j tr u hj hu => ?_⟩
 cases j with
 | zero => simp at hj hu; subst hj hu; exact .v rfl
 | succ j => simp at hj
theorem Opens.bool {H : Type} {enc : TypeId × Value → H} {P : Program} {w : World} {t : TypeId} (ht : P.underlying t = some .bool) : Opens enc P w t (fun x : Bool => [.v (.bool x)]) (fun _ => True) (fun _ => 1) := by
 intro n cs x h
 obtain ⟨a, rfl, rfl⟩ := DataW.trod_bool ht h
 refine ⟨a, rfl, fun _ => trivial, Nat.le_refl _, fun j tr u hj hu => ?_⟩
 cases j with
 | zero => simp at hj hu; subst hj hu; exact .v rfl
 | succ j => simp at hj
theorem Opens.map {H : Type} {enc : TypeId × Value → H} {P : Program} {w : World} {t : TypeId} {α β : Type} {f : α → List Tr} {s : α → Prop} {bk : α → Nat} (h : Opens enc P w t f s bk) (e : α → β) {f' : β → List Tr} {s' : β → Prop} {bk' : β → Nat} (hf : ∀ a, f' (e a) = f a) (hs : ∀ a, s a → s' (e a)) (hb : ∀ a, bk' (e a) ≤ bk a) : Opens enc P w t f' s' bk' := by
 intro n cs x hx
 obtain ⟨a, h1, h2, h3, h4⟩ := h n cs x hx
 exact ⟨e a, by rw [hf]; exact h1, fun hw => hs _ (h2 hw), Nat.le_trans (hb a) h3, by rw [hf]; exact h4⟩
theorem weightsAll_mem {H : Type} {P : Program} {e : TypeId} {d : DataW H} {m : Nat} : ∀ {l : List (DataW H)}, d ∈ l → m ∈ d.weights P e → m ∈ DataW.weightsAll P e l
 | x :: l, h, hm => by
  simp only [DataW.weightsAll, List.mem_append]
  rcases List.mem_cons.1 h with h | h
  ·subst h; exact .inl hm
  ·exact .inr (weightsAll_mem h hm)
theorem bulkAll_sum {H : Type} {α : Type} {bk : α → Nat} : ∀ {l : List (DataW H)} {m : List α}, m.length = l.length → (∀ (i : Nat) (a : α) (y : DataW H), m[i]? = some a → l[i]? = some y → bk a ≤ Rows.uptoBulk y) → (m.map bk).sum ≤ Rows.uptoBulkAll l
 | [], [], _, _ => by simp [Rows.uptoBulkAll]
 | [], _ :: _, h, _ => by simp at h
 | _ :: _, [], h, _ => by simp at h
 | y :: l, a :: m, hl, h => by
  have h0 := h 0 a y rfl rfl
  have h1 := bulkAll_sum (l := l) (m := m) (by simpa using hl) (fun i a y h1 h2 => h (i + 1) a y (by simpa using h1) (by simpa using h2))
  simp only [Rows.uptoBulkAll, List.map_cons, List.sum_cons]
  omega
theorem Opens.slice {H : Type} {enc : TypeId × Value → H} {P : Program} {w : World} {t e : TypeId} {α : Type} [Inhabited α] {f : α → List Tr} {q : α → Prop} {bk : α → Nat} {s by_ : Nat} (ht : P.underlying t = some (.slice e)) (hs : P.cellsOf e = s) (hy : P.bytesOf e = by_) (hf : ∀ a, (f a).length = s) (h : Opens enc P w e f q bk) :
  Opens enc P w t (fun l : List α => [.lst (l.map f)]) (fun l => l.length * by_ ≤ reachBytes ∧ ∀ a ∈ l, q a) (fun l => (l.map bk).sum + 1) := by
 intro n cs x hx
 rcases Go.Deep.open_slice ht hx with ⟨rfl, rfl⟩ | ⟨a, len, cap, m, n', D, Pl, rfl, _, hl, hm, hmm, rfl, hel⟩
 ·refine ⟨[], rfl, fun _ => ⟨by simp, by simp⟩, by simp [Rows.uptoBulk], fun j tr u hj hu => ?_⟩
  cases j with
  | zero => simp at hj hu; subst hj hu; exact .lst (size := s) (xs := []) ⟨Nat.le_refl _, Nat.zero_le _, fun _ => ⟨rfl, rfl⟩, by simp, fun j u hj => by simp at hj⟩ (fun h => absurd rfl h) rfl (fun _ h => by simp at h) (fun i cs j x u hi => by simp at hi)
  | succ j => simp at hj
 ·have hmm' : m = cap := by simpa using hmm
  subst hmm'
  obtain ⟨A, hA⟩ := Go.Deep.choose_lt (α := α) (n := m) (p := fun i b => ∃ cs', w.cells? 0 (a.add (i * P.cellsOf e)) (P.cellsOf e) = some cs' ∧ cs'.length = (f b).length ∧ (((∀ m ∈ (D i).weights P e, m ≤ reachBytes) → q b) ∧ bk b ≤ Rows.uptoBulk (D i)) ∧ ∀ (j : Nat) tr u, (f b)[j]? = some tr → cs'[j]? = some u → Frz w (fun b => b < w.heap.size) tr u) (fun i hi => by
   obtain ⟨cs', h1, h2⟩ := hel i hi
   obtain ⟨b, q1, q2, q2', q3⟩ := h _ _ _ h2
   exact ⟨b, cs', h1, q1, ⟨q2, q2'⟩, q3⟩)
  have cell : ∀ i j, i < len → j < s → ∃ u, w.cell? (a.add (i * s + j)) = some u ∧ ∀ tr, (f (A i))[j]? = some tr → Frz w (fun b => b < w.heap.size) tr u := fun i j hi hj => by
   obtain ⟨cs', h1, h2, _, h3⟩ := hA i (by omega)
   rw [hs] at h1
   obtain ⟨_, c2, c3⟩ := World.cells?_some h1
   have hlt : j < cs'.length := by omega
   refine ⟨cs'[j], ?_, fun tr htr => h3 j tr _ htr (List.getElem?_eq_getElem hlt)⟩
   rw [← Go.Deep.add_add, c3 j (by omega), List.getElem?_eq_getElem hlt]
  let xs : List Value := (List.range (len * s)).map fun q => (w.cell? (a.add q)).getD (.bool false)
  have hxl : xs.length = len * s := by simp [xs]
  have hget : ∀ i j, i < len → j < s → ∃ u, xs[i * s + j]? = some u ∧ w.cell? (a.add (i * s + j)) = some u ∧ ∀ tr, (f (A i))[j]? = some tr → Frz w (fun b => b < w.heap.size) tr u := fun i j hi hj => by
   obtain ⟨u, h1, h2⟩ := cell i j hi hj
   refine ⟨u, ?_, h1, h2⟩
   simp only [xs, List.getElem?_map, List.getElem?_range (idx_lt hi hj), Option.map_some, h1, Option.getD_some]
  have hdiv : ∀ q, q < len * s → ∃ i j, i < len ∧ j < s ∧ q = i * s + j := fun q hq => by
   have hs0 : 0 < s := by
    rcases Nat.eq_zero_or_pos s with e | e
    ·rw [e] at hq; omega
    ·exact e
   exact ⟨q / s, q % s, (Nat.div_lt_iff_lt_mul hs0).2 hq, Nat.mod_lt _ hs0, by rw [Nat.mul_comm]; exact (Nat.div_add_mod q s).symm⟩
  have hlr : ((List.range len).map A).length = len := by simp
  refine ⟨(List.range len).map A, rfl, fun hw => ⟨?_, fun b hb => ?_⟩, ?_, fun j tr u hj hu => ?_⟩
  ·have := hw ((((List.range len).map D).length + ((List.range (m - len)).map fun j => D (len + j)).length) * P.bytesOf e) (by simp only [DataW.weights, ht]; exact List.mem_cons_self ..)
   simp only [List.length_map, List.length_range, hy] at this ⊢
   exact Nat.le_trans (Nat.mul_le_mul_right _ (Nat.le_add_right _ _)) this
  ·obtain ⟨i, hi, rfl⟩ := List.mem_map.1 hb
   have hi' : i < len := by simpa using hi
   obtain ⟨_, _, _, qq, _⟩ := hA i (by omega)
   refine qq.1 fun k hk => hw k ?_
   simp only [DataW.weights, ht]
   exact List.mem_cons_of_mem _ (List.mem_append_left _ (weightsAll_mem (List.mem_map.2 ⟨i, hi, rfl⟩) hk))
  ·have := bulkAll_sum (l := (List.range len).map D) (m := (List.range len).map A) (bk := bk) (by simp) (fun i a y h1 h2 => by
    have hi : i < len := by have := get_lt h1; simpa using this
    simp only [List.getElem?_map, List.getElem?_range hi, Option.map_some, Option.some.injEq] at h1 h2
    subst h1 h2
    obtain ⟨_, _, _, qq, _⟩ := hA i (by omega)
    exact qq.2)
   simp only [Rows.uptoBulk]
   omega
  ·cases j with
   | succ j => simp at hj
   | zero =>
    simp at hj hu
    subst hj hu
    refine .lst (size := s) (xs := xs) ⟨hl, hm, fun h => (by cases h), hxl, fun q u hq => ?_⟩ (fun hne => ?_) (by simp) (fun cs hcs => ?_) (fun i cs j x u hi hj hu => ?_)
    ·have hq' := get_lt hq
     rw [hxl] at hq'
     obtain ⟨i, j, hi, hj, rfl⟩ := hdiv q hq'
     obtain ⟨u', h1, h2, _⟩ := hget i j hi hj
     rw [h1] at hq; cases hq
     exact h2
    ·have hpos : 0 < xs.length := List.length_pos_iff.2 hne
     rw [hxl] at hpos
     obtain ⟨i, j, hi, hj, he⟩ := hdiv 0 hpos
     obtain ⟨u', _, h2, _⟩ := hget i j hi hj
     have := World.block_lt_of_cell? w _ h2
     rw [add_block] at this
     exact this
    ·simp at hcs
     obtain ⟨i, _, rfl⟩ := hcs
     exact hf _
    ·have hi' : i < len := by have := get_lt hi; simpa using this
     simp only [List.getElem?_map, List.map_map, List.getElem?_range hi', Option.map_some, Option.some.injEq, Function.comp] at hi
     subst hi
     have hj' := get_lt hj
     rw [hf] at hj'
     obtain ⟨u', h1, _, h3⟩ := hget i j hi' hj'
     rw [h1] at hu; cases hu
     exact h3 x hj
def OpensF {H : Type} (enc : TypeId × Value → H) (P : Program) (w : World) (fs : List Field) (off : Nat) {α : Type} (f : α → List Tr) (s : α → Prop) (bk : α → Nat) : Prop :=
 ∀ (n : Nat) (cs : List Value) (ys : List (DataW H × List MemPlace)), ys.length = fs.length → (∀ (i : Nat) (fd : Field), fs[i]? = some fd → DataW.trod enc P w 0 (fun _ => true) true n fd.type ((cs.drop fd.offset).take (P.cellsOf fd.type)) = ys[i]?) →
  ∃ a, ((∀ m ∈ DataW.weightsEach P (fs.map (·.type)) (ys.map (·.1)), m ≤ reachBytes) → s a) ∧ bk a ≤ Rows.uptoBulkAll (ys.map (·.1)) ∧ ∀ (j : Nat) tr u, (f a)[j]? = some tr → cs[off + j]? = some u → Frz w (fun b => b < w.heap.size) tr u
theorem OpensF.nil {H : Type} {enc : TypeId × Value → H} {P : Program} {w : World} {off : Nat} : OpensF enc P w [] off (fun _ : Unit => []) (fun _ => True) (fun _ => 0) :=
 fun n cs ys _ _ => ⟨(), fun _ => trivial, Nat.zero_le _, fun j tr u hj => by simp at hj⟩
theorem OpensF.cons {H : Type} {enc : TypeId × Value → H} {P : Program} {w : World} {off s : Nat} {fd : Field} {fs : List Field} {α β : Type} {f : α → List Tr} {f' : β → List Tr} {q : α → Prop} {q' : β → Prop} {bk : α → Nat} {bk' : β → Nat} {t : TypeId}
  (htt : fd.type = t) (ho : fd.offset = off) (hs : P.cellsOf t = s) (hf : ∀ a, (f a).length = s) (h : Opens enc P w t f q bk) (k : OpensF enc P w fs (off + s) f' q' bk') :
  OpensF enc P w (fd :: fs) off (fun p : α × β => f p.1 ++ f' p.2) (fun p => q p.1 ∧ q' p.2) (fun p => bk p.1 + bk' p.2) := by
 subst htt
 intro n cs ys hl hy
 cases ys with
 | nil => simp at hl
 | cons y ys =>
  have h0 := hy 0 fd rfl
  obtain ⟨a, q1, q2, q2', q3⟩ := h _ _ _ h0
  obtain ⟨b, r2, r2', r3⟩ := k n cs ys (by simpa using hl) (fun i fd' h1 => by have := hy (i + 1) fd' (by simpa using h1); simpa using this)
  rw [hs, hf, ho, List.length_take, List.length_drop] at q1
  refine ⟨(a, b), fun hw => ⟨q2 fun m hm => hw m (by simp only [List.map_cons, DataW.weightsEach, List.mem_append]; exact .inl hm), r2 fun m hm => hw m (by simp only [List.map_cons, DataW.weightsEach, List.mem_append]; exact .inr hm)⟩, by simp only [List.map_cons, Rows.uptoBulkAll]; omega, fun j tr u hj hu => ?_⟩
  by_cases hjs : j < s
  ·rw [List.getElem?_append_left (by rw [hf]; exact hjs)] at hj
   refine q3 j tr u hj ?_
   rw [hs, ho, List.getElem?_take, if_pos hjs, List.getElem?_drop]
   exact hu
  ·rw [List.getElem?_append_right (by rw [hf]; omega), hf] at hj
   refine r3 (j - s) tr u hj ?_
   rw [← hu]; congr 1; omega
theorem Opens.struct {H : Type} {enc : TypeId × Value → H} {P : Program} {w : World} {t : TypeId} {fs : List Field} {n : Nat} {α : Type} {f : α → List Tr} {q : α → Prop} {bk : α → Nat} (ht : P.underlying t = some (.struct fs.toArray)) (hn : P.cellsOf t = n) (hf : ∀ a, (f a).length = n) (h : OpensF enc P w fs 0 f q bk) : Opens enc P w t f q bk := by
 intro m cs x hx
 obtain ⟨xs, m', rfl, rfl, h1, h2, h3⟩ := DataW.trod_struct ht hx
 obtain ⟨a, q1, q2, q3⟩ := h m' cs xs (by simpa using h2) (fun i fd hi => h3 i fd (by simpa using hi))
 refine ⟨a, by rw [hf, h1, hn], fun hw => q1 fun k hk => hw k ?_, ?_, fun j tr u hj hu => q3 j tr u hj (by simpa using hu)⟩
 ·simp only [DataW.weights, ht]
  simpa using hk
 ·simp only [Rows.uptoBulk]; omega
def toAV : Tr → AV
 | .v x => .t (.v x)
 | .lst els => .ln els
theorem val_toAV {Kn : Nat → Nat → Prop} {ρ : Rho} {w : World} {Z Y : Nat → Prop} (hy : ∀ b, Z b → Y b) {x : Tr} {v : Value} (h : Frz w Z x v) : Val Kn ρ w Z Y (toAV x) v := by
 cases x with
 | v x => exact .t h
 | lst els =>
  obtain ⟨a, c, size, xs, rfl, hr, hz, he⟩ := h.open
  exact .ln hr (fun hne => hy _ (hz hne)) rfl he
def argAV (agg : Bool) (l : List Tr) : AV := bif agg then .agg (l.map toAV) else match l with
 | [x] => toAV x
 | _ => .any
def isAgg (P : Program) (t : TypeId) : Option Bool := match P.underlying t with
 | some (.struct _) => some true
 | some (.int _) | some .bool | some .string | some (.slice _) => some false
 | _ => none
theorem isAgg_struct {P : Program} {t : TypeId} (h : isAgg P t = some true) : ∃ fs, P.underlying t = some (.struct fs) := by
 unfold isAgg at h
 split at h
 ·rename_i fs ht; exact ⟨fs, ht⟩
 all_goals cases h
theorem isAgg_cell {P : Program} {t : TypeId} (h : isAgg P t = some false) {w : World} {r : Reach} {b0 : Nat} {v : Value} (hv : Value.okWide P w r b0 t v) : v.cells.toList = [v] := by
 unfold isAgg at h
 split at h
 ·cases h
 ·rename_i ht; obtain ⟨n, rfl⟩ := okWide_int ht hv; rfl
 ·rename_i ht; obtain ⟨n, rfl⟩ := okWide_bool ht hv; rfl
 ·rename_i ht; obtain ⟨n, rfl⟩ := okWide_string ht hv; rfl
 ·rename_i ht; obtain ⟨a, l, c, rfl⟩ := okWide_slice ht hv; rfl
 ·cases h
theorem Opens.arg {H : Type} {enc : TypeId × Value → H} {P : Program} {w : World} {t : TypeId} {α : Type} {f : α → List Tr} {s : α → Prop} {bk : α → Nat} (h : Opens enc P w t f s bk) {b : Bool} (hb : isAgg P t = some b) (h1 : b = false → ∀ a, (f a).length = 1)
  {r : Reach} {b0 : Nat} {v : Value} {d : DataW H} {ps : List MemPlace} (hv : Value.okWide P w r b0 t v) (hd : DataW.Trod enc P w 0 (fun _ => true) true t v d ps) :
  ∃ a, ((∀ m ∈ d.weights P t, m ≤ reachBytes) → s a) ∧ bk a ≤ Rows.uptoBulk d ∧ ∀ (Kn : Nat → Nat → Prop) (ρ : Rho), Val Kn ρ w (fun b => b < w.heap.size) (fun b => b < w.heap.size) (argAV b (f a)) v := by
 obtain ⟨fuel, hd⟩ := hd
 obtain ⟨a, q1, q2, q3, q4⟩ := h _ _ _ hd
 refine ⟨a, q2, q3, fun Kn ρ => ?_⟩
 cases b with
 | true =>
  obtain ⟨fs, ht⟩ := isAgg_struct hb
  obtain ⟨cs, rfl, hsz⟩ := okWide_struct ht hv
  have e : cs = cs.toList.toArray := by simp
  rw [e]
  simp only [Value.cells] at q1 q4
  refine .agg (by simpa using q1.symm) (fun u hu => ?_) (fun j x u hj hu => ?_)
  ·obtain ⟨j, hj⟩ := List.getElem?_of_mem hu
   have hl := get_lt hj
   rw [q1] at hl
   exact (q4 j _ u (List.getElem?_eq_getElem hl) hj).one
  ·simp only [List.getElem?_map, Option.map_eq_some_iff] at hj
   obtain ⟨y, hy, rfl⟩ := hj
   exact val_toAV (fun _ h => h) (q4 j y u hy hu)
 | false =>
  have hl := h1 rfl a
  match hfa : f a, hl with
  | [x], _ =>
   rw [hfa] at q1 q4
   show Val Kn ρ w _ _ (toAV x) v
   have hna := isAgg_cell hb hv
   rw [hna] at q4
   exact val_toAV (fun _ h => h) (q4 0 x v rfl rfl)
end Go.Proofs.Ytnibnbcmnaflmaa
namespace Go.Proofs.Ytnibnbcmnaflmaa
set_option linter.unusedVariables false
set_option linter.unusedSimpArgs false
set_option linter.unnecessarySimpa false
open Go.ChangeShapes Go.WideShapes Go.ChangeAt Go.RowKit
theorem trodAll_stays {H : Type} {enc : TypeId × Value → H} {P : Program} (hl : laidOutB P = true) {W W' : World} (hb : Below W.heap.size W W') {sp : Nat → Bool} :
  ∀ (ts : List TypeId) (vs : List Value) (ds : List (DataW H)) (ps : List MemPlace), (∀ t ∈ ts, P.readableRec t = true ∧ t < P.types.size) → DataW.TrodAll enc P W 0 (fun _ => true) true ts vs ds ps →
   (∀ x ∈ ps, x.block < W.heap.size) → (∀ x ∈ ps, sp x.block = true) → DataW.TrodAll enc P W' 0 sp true ts vs ds ps := by
 intro ts
 induction ts with
 | nil =>
  intro vs ds ps _ h _ _
  obtain ⟨rfl, rfl, rfl⟩ := trodAll_nil h
  exact rfl
 | cons t ts ih =>
  intro vs ds ps hr h hlt hsp
  obtain ⟨v, vs, d, ds, p, q, rfl, rfl, rfl, h1, h2⟩ := trodAll_cons h
  refine ⟨p, q, ?_, ih vs ds q (fun t ht => hr t (List.mem_cons_of_mem _ ht)) h2 (fun x hx => hlt x (List.mem_append_right _ hx)) (fun x hx => hsp x (List.mem_append_right _ hx)), rfl⟩
  exact WideElems.Trod_stays hl (hr t (List.mem_cons_self ..)).1 (hr t (List.mem_cons_self ..)).2 h1 (fun x hx => hb.same (hlt x (List.mem_append_left _ hx))) (fun x hx => hsp x (List.mem_append_left _ hx))
theorem law_post {H : Type} {enc : TypeId × Value → H} {P : Program} {f : Func} {s : ChangeSpec} {apart fresh handsOn again : Bool} {W W' : World} {args : Array Value} {ds gs : List (DataW H)} {before : List MemPlace} {tb : TypeId}
  (hl : laidOutB P = true) (hr : ∀ t ∈ f.params.toList, P.readableRec t = true ∧ t < P.types.size) (hres : f.resultTypes = #[tb]) (htb : P.underlying tb = some .bool) (hvars : s.vars = [])
  (hW : DataW.Whole enc P f.params.toList s.vars apart W args.toList ds gs before)
  (hfn : (s.fn H (ds ++ gs)).results = [.lit (.bool true)] ∧ (s.fn H (ds ++ gs)).args = ds ∧ (s.fn H (ds ++ gs)).vars = [])
  (hb : Below W.heap.size W W') : s.post enc P f apart fresh handsOn again W args (.bool true) W' := by
 have hlt : ∀ p ∈ before, p.block < W.heap.size := fun p hp => hW.lt p hp
 have hold : ∀ p ∈ before, (fun b => decide (b < W.heap.size)) p.block = true := fun p hp => by simpa using hlt p hp
 have hW' := hW
 obtain ⟨p, q, hA, hV, hps, hz, hn⟩ := hW
 rw [hvars] at hV
 obtain ⟨rfl, rfl⟩ := trodVars_none hV
 have hpb : before = p := by simpa using hps
 subst hpb
 have hres' : ∀ (b : Nat) (sp : Nat → Bool) (hd : Bool), DataW.TrodAll enc P W' b sp hd f.resultTypes.toList ((Value.bool true).resultList f.resultTypes.size) [.lit (.bool true)] [] := fun b sp hd => by
  rw [hres]
  exact trodAll_mk1 (shut_bool htb _)
 have hargs : ∀ sp : Nat → Bool, (∀ p ∈ before, sp p.block = true) → DataW.TrodAll enc P W' 0 sp true f.params.toList args.toList ds before := fun sp hsp => trodAll_stays hl hb _ _ _ _ hr hA hlt hsp
 have hvs : ∀ sp : Nat → Bool, DataW.TrodVars enc P W' sp s.vars [] [] := fun sp => by rw [hvars]; exact rfl
 refine ⟨ds, [], before, [], before, [], hW', ?_, ?_, ?_, World.keptBut_mono (fun p hp => ⟨hp, Or.inr (Or.inl hp)⟩) (hb.frame (· ∈ before)), fun _ => ?_⟩
 ·rw [hfn.1]; exact hres' _ _ _
 ·rw [hfn.2.1]; exact hargs _ hold
 ·rw [hfn.2.2]; exact hvs _
 ·refine ⟨ok_one hres rfl (okWide_bool_mk htb _), [.lit (.bool true)] ++ ds, [], [] ++ before ++ [], ⟨[] ++ before, [], trodAll_append (hargs _ (fun _ _ => rfl)) (hres' _ _ _), hvs _, rfl, ?_, ?_⟩, ?_⟩
  ·intro b off hp
   have hin : MemPlace.cell b off ∈ before := by simpa using hp
   rw [hb.frozen (hlt _ hin)]
   exact hz b off hin
  ·intro ha
   simpa using hn ha
  ·intro p hp _
   simpa using hp
#print axioms law_post
end Go.Proofs.Ytnibnbcmnaflmaa
namespace Go.Proofs.Ytnibnbcmnaflmaa
set_option linter.unusedVariables false
set_option linter.unusedSimpArgs false
set_option linter.unnecessarySimpa false
open Go.RowKit Go.ChangeShapes Go.WideShapes Go.ChangeAt Go.Joins Go.Deep
theorem own : ownKnob Try.prog.godebug = none := by kernel_rfl
theorem laidOut : laidOutB Try.prog = true := by kernel_rfl
def oldEnv (W : World) : Env := { W := W, D := fun b => W.heap.size ≤ b, H := [], ρ := fun _ _ => ⟨none, 0, 0⟩, Z := fun b => b < W.heap.size, Y := fun b => b < W.heap.size, big := fun _ h => h, yd := fun b h1 h2 => by omega }
theorem Cd.law {P : Program} {f : FuncId} {args : List AV} (h : Cd P f args (.t (.v (.bool true))) []) {W : World} {vs : List Value} (hv : AVs (Val (Kn []) (oldEnv W).ρ W (oldEnv W).Z (oldEnv W).Y) args vs) :
  Calls P f vs.toArray W fun e W' => e = .returned (.bool true) ∧ Below W.heap.size W W' := by
 refine (h (oldEnv W) vs rfl ⟨fun i o hi => by simp [oldEnv] at hi, fun i j o o' b hi => by simp [oldEnv] at hi, fun i o b hi => by simp [oldEnv] at hi, fun b h => h, fun b h => h⟩ (fun i o b hi => by simp at hi) hv).mono ?_
 rintro en w' ⟨v, r, heap, ρ, Z, Y, rfl, ⟨rfl, rfl⟩, hok, hval⟩
 have e : v = .bool true := by
  cases hval with
  | t h => cases h; rfl
 subst e
 exact ⟨rfl, hok.os, hok.tape, hok.output, hok.size, fun k hk => hok.keep k (by simp only [oldEnv]; omega)⟩
theorem AVs.nil {R : AV → Value → Prop} : AVs R [] [] := ⟨rfl, fun j x u h => by simp at h⟩
theorem AVs.cons {R : AV → Value → Prop} {x : AV} {v : Value} {l : List AV} {us : List Value} (h : R x v) (k : AVs R l us) : AVs R (x :: l) (v :: us) := by
 refine ⟨by simp [k.len], fun j y u hj hu => ?_⟩
 cases j with
 | zero => simp at hj hu; subst hj hu; exact h
 | succ j => exact k.at_ j y u (by simpa using hj) (by simpa using hu)
theorem wt_of {H : Type} {P : Program} {ts us : List TypeId} {ds gs : List (DataW H)} (h : (DataW.weightsEach P (ts ++ us) (ds ++ gs)).all (· ≤ reachBytes) = true) {j : Nat} {t : TypeId} {d : DataW H} (ht : ts[j]? = some t) (hd : ds[j]? = some d) : ∀ m ∈ d.weights P t, m ≤ reachBytes := fun m hm => by
 have h1 : (ts ++ us)[j]? = some t := by rw [List.getElem?_append_left (get_lt ht)]; exact ht
 have h2 : (ds ++ gs)[j]? = some d := by rw [List.getElem?_append_left (get_lt hd)]; exact hd
 have := List.all_eq_true.1 h _ (DataW.weights_mem_each h1 h2 m hm)
 simpa using this
theorem i64_wf {x : Int} (h : (Lit.int .i64 x).wf = true) : -9223372036854775808 ≤ x ∧ x ≤ 9223372036854775807 := by have := bounds_i64 h; omega
theorem u64_wf {x : Int} (h : (Lit.int .u64 x).wf = true) : 0 ≤ x ∧ x ≤ 18446744073709551615 := by have := bounds_u64 h; omega
inductive Wa : AV → AV → Prop
 | any (x : AV) : Wa x .any
 | refl (x : AV) : Wa x x
 | agg {l l' : List AV} (h1 : l.length = l'.length) (h : ∀ (j : Nat) x y, l[j]? = some x → l'[j]? = some y → Wa x y) : Wa (.agg l) (.agg l')
inductive WaL : List AV → List AV → Prop
 | nil : WaL [] []
 | cons {x y : AV} {l l' : List AV} (h : Wa x y) (k : WaL l l') : WaL (x :: l) (y :: l')
theorem WaL.get {l l' : List AV} (h : WaL l l') : l.length = l'.length ∧ ∀ (j : Nat) x y, l[j]? = some x → l'[j]? = some y → Wa x y := by
 induction h with
 | nil => exact ⟨rfl, fun j x y h => by simp at h⟩
 | @cons x y l l' h k ih =>
  refine ⟨by simp [ih.1], fun j a b ha hb => ?_⟩
  cases j with
  | zero => simp at ha hb; subst ha hb; exact h
  | succ j => exact ih.2 j a b (by simpa using ha) (by simpa using hb)
theorem Wa.aggL {l l' : List AV} (h : WaL l l') : Wa (.agg l) (.agg l') := .agg h.get.1 h.get.2
theorem Wa.val {Kn : Nat → Nat → Prop} {ρ : Rho} {w : World} {Z Y : Nat → Prop} {x y : AV} (h : Wa x y) : ∀ {v : Value}, Val Kn ρ w Z Y x v → Val Kn ρ w Z Y y v := by
 induction h with
 | any x => intro v _; exact .any v
 | refl x => intro v h; exact h
 | @agg l l' h1 h ih =>
  intro v hv
  cases hv with
  | @agg _ us e ho hu =>
   refine .agg (h1.symm.trans e) ho fun j y u hj hu' => ?_
   have hl := get_lt hj
   rw [← h1] at hl
   exact ih j _ y (List.getElem?_eq_getElem hl) hj (hu j _ u (List.getElem?_eq_getElem hl) hu')
theorem headD {α : Type} {l : List α} {x : α} (h : l.head? = some x) : ∃ r, l = x :: r := by
 cases l with
 | nil => cases h
 | cons y r => cases h; exact ⟨r, rfl⟩
theorem strip_cut (rest : List (List Char)) : stripLifts liftWords ("cut".toList :: rest) = ([], "cut".toList :: rest) := by
 simp [stripLifts, liftWords]
theorem mayEnter_cut {P : Program} (h : (behindMainWord (wordsSigns P.initOrder.toList)).head? = some "cut".toList) (h1 : P.laysLater = false) (h2 : P.bearsReflect = false) (h3 : P.doorFits [] = true) : P.mayEnter = true := by
 obtain ⟨rest, hr⟩ := headD h
 unfold Program.mayEnter
 rw [hr]
 simp only [strip_cut, h1, h2, h3]
 simp
theorem liftsFinal_cut {P : Program} (h : (behindMainWord (wordsSigns P.initOrder.toList)).head? = some "cut".toList) : P.liftsFinal = false := by
 obtain ⟨rest, hr⟩ := headD h
 unfold Program.liftsFinal Program.headLifts
 rw [hr]
 simp only [strip_cut]
 simp
theorem make_cut {P : Program} (h : (behindMainWord (wordsSigns P.initOrder.toList)).head? = some "cut".toList) : P.make = some .cut := by
 obtain ⟨rest, hr⟩ := headD h
 unfold Program.make
 rw [hr]
 simp
set_option maxRecDepth 100000 in
theorem cutHead : (behindMainWord (wordsSigns Try.prog.initOrder.toList)).head? = some "cut".toList := by
 have h := (congrArg String.toList (rfl : Try.prog.initOrder = String.ofList _)).trans String.toList_ofList
 rw [h]
 decide +kernel
theorem mayEnter_ok : Try.prog.mayEnter = true := mayEnter_cut cutHead (by kernel_rfl) (by kernel_rfl) (by kernel_rfl)
theorem liftsFinal_ok : Try.prog.liftsFinal = false := liftsFinal_cut cutHead
theorem make_ok : Try.prog.make = some .cut := make_cut cutHead
theorem and_mk {a b : Bool} (h : a = true) (k : b = true) : (a && b) = true := by simp [h, k]
end Go.Proofs.Ytnibnbcmnaflmaa
namespace Go.Proofs.Ytnibnbcmnaflmaa
open Go.RowKit
set_option linter.unusedVariables false
set_option linter.unusedSimpArgs false
set_option linter.unnecessarySimpa false
set_option maxRecDepth 100000
set_option maxHeartbeats 64000000
section
attribute [local irreducible] AL AW RG Fin C Cd Cio thenQ blockQ retQ
theorem mixed : Try.prog.follows .mixedOrders = true := by kernel_rfl
abbrev bo (b : Bool) : AV := .t (.v (.bool b))
abbrev i64 (x : Int) : AV := .t (.v (.int .i64 x))
def tI (x : Int) : List Tr := [.v (.int .i64 x)]
def tU (x : Int) : List Tr := [.v (.int .u64 x)]
structure Rst where
 seq : Int
 cas : Int
 code : Int
 value : Int
 deriving DecidableEq, Inhabited
def tR (r : Rst) : List Tr := [.v (.int .i64 r.seq), .v (.int .i64 r.cas), .v (.int .i64 r.code), .v (.int .i64 r.value)]
end
end Go.Proofs.Ytnibnbcmnaflmaa
namespace Go.Proofs.Ytnibnbcmnaflmaa
set_option linter.unusedVariables false
set_option linter.unusedSimpArgs false
set_option linter.unnecessarySimpa false
open Go.RowKit Go.ChangeShapes Go.WideShapes
def sI (x : Int) : Prop := -9223372036854775808 ≤ x ∧ x ≤ 9223372036854775807
def sU (x : Int) : Prop := 0 ≤ x ∧ x ≤ 18446744073709551615
def tB (x : Bool) : List Tr := [.v (.bool x)]
def b1 {α : Type} (_ : α) : Nat := 1
def sL {α : Type} (s : α → Prop) (k : Nat) (l : List α) : Prop := l.length * k ≤ reachBytes ∧ ∀ a ∈ l, s a
def bL {α : Type} (b : α → Nat) (l : List α) : Nat := (l.map b).sum + 1
def tL {α : Type} (f : α → List Tr) (l : List α) : List Tr := [.lst (l.map f)]
section
variable {H : Type} {enc : TypeId × Value → H} {W : World}
theorem o_int : Opens enc Try.prog W 3 tI sI b1 := Opens.map (Opens.int Try.underlying3) id (fun _ => rfl) (fun _ h => i64_wf h) (fun _ => Nat.le_refl _)
theorem o_ints : Opens enc Try.prog W 22 (tL tI) (sL sI 8) (bL b1) := Opens.slice Try.underlying22 (by kernel_rfl) (by kernel_rfl) (fun _ => rfl) o_int
theorem o_u64 : Opens enc Try.prog W 80 tU sU b1 := Opens.map (Opens.int Try.underlying80) id (fun _ => rfl) (fun _ h => u64_wf h) (fun _ => Nat.le_refl _)
end
structure DRef where
 index : Int
 tag : Int
 deriving DecidableEq, Inhabited
def tRf (x : DRef) : List Tr := tI x.index ++ tI x.tag
structure DSlot where
 index : Int
 tag : Int
 deriving DecidableEq, Inhabited
structure DOld where
 ref : DRef
 stamp : Int
 deriving DecidableEq, Inhabited
def tOd (x : DOld) : List Tr := tRf x.ref ++ tI x.stamp
structure DCase where
 dir : Int
 handle : Int
 value : Int
 deriving DecidableEq, Inhabited
def tCs (x : DCase) : List Tr := tI x.dir ++ tI x.handle ++ tI x.value
structure DReq where
 kind : Int
 arg : Int
 value : Int
 dflt : Bool
 cases : List DCase
 deriving DecidableEq, Inhabited
def tRq (x : DReq) : List Tr := tI x.kind ++ tI x.arg ++ tI x.value ++ tB x.dflt ++ tL tCs x.cases
structure DCells where
 cap : Int
 list : List Int
 done : List Rst
 deriving DecidableEq, Inhabited
structure DSpan where
 thread : Int
 seq : Int
 beg : Int
 fin : Int
 deriving DecidableEq, Inhabited
structure DTold where
 thread : Int
 result : Rst
 deriving DecidableEq, Inhabited
structure DWait where
 on : Bool
 ticket : Int
 seq : Int
 cases : List DCase
 deriving DecidableEq, Inhabited
structure DChan where
 gen : Int
 cap : Int
 used : Bool
 closed : Bool
 buf : List Int
 deriving DecidableEq, Inhabited
structure DOp where
 thread : Int
 seq : Int
 phase : Int
 req : DReq
 deriving DecidableEq, Inhabited
def tOp (x : DOp) : List Tr := tI x.thread ++ tI x.seq ++ tI x.phase ++ tRq x.req
structure DNote where
 kind : Int
 thread : Int
 seq : Int
 time : Int
 req : DReq
 result : Rst
 deriving DecidableEq, Inhabited
structure DTurn where
 time : Int
 thread : Int
 ops : List DOp
 deriving DecidableEq, Inhabited
structure DHall where
 ticket : Int
 chans : List DChan
 waits : List DWait
 done : List Rst
 deriving DecidableEq, Inhabited
structure DConf where
 kind : Int
 threads : Int
 chans : Int
 cap : Int
 nodes : Int
 retire : Int
 patience : Int
 tags : Int
 seqs : Int
 gens : Int
 start : List Int
 deriving DecidableEq, Inhabited
def tCf (x : DConf) : List Tr := tI x.kind ++ tI x.threads ++ tI x.chans ++ tI x.cap ++ tI x.nodes ++ tI x.retire ++ tI x.patience ++ tI x.tags ++ tI x.seqs ++ tI x.gens ++ tL tI x.start
def sCf (x : DConf) : Prop := sI x.kind ∧ sI x.threads ∧ sI x.chans ∧ sI x.cap ∧ sI x.nodes ∧ sI x.retire ∧ sI x.patience ∧ sI x.tags ∧ sI x.seqs ∧ sI x.gens ∧ (sL sI 8) x.start
def bCf (x : DConf) : Nat := b1 x.kind + b1 x.threads + b1 x.chans + b1 x.cap + b1 x.nodes + b1 x.retire + b1 x.patience + b1 x.tags + b1 x.seqs + b1 x.gens + (bL b1) x.start
theorem o_Cf {H : Type} {enc : TypeId × Value → H} {W : World} : Opens enc Try.prog W 79 tCf sCf bCf := by
 refine Opens.map (Opens.struct (n := 11) Try.underlying79 (by kernel_rfl) (fun _ => rfl) (OpensF.cons (s := 1) rfl rfl (by kernel_rfl) (fun _ => rfl) o_int (OpensF.cons (s := 1) rfl rfl (by kernel_rfl) (fun _ => rfl) o_int (OpensF.cons (s := 1) rfl rfl (by kernel_rfl) (fun _ => rfl) o_int (OpensF.cons (s := 1) rfl rfl (by kernel_rfl) (fun _ => rfl) o_int (OpensF.cons (s := 1) rfl rfl (by kernel_rfl) (fun _ => rfl) o_int (OpensF.cons (s := 1) rfl rfl (by kernel_rfl) (fun _ => rfl) o_int (OpensF.cons (s := 1) rfl rfl (by kernel_rfl) (fun _ => rfl) o_int (OpensF.cons (s := 1) rfl rfl (by kernel_rfl) (fun _ => rfl) o_int (OpensF.cons (s := 1) rfl rfl (by kernel_rfl) (fun _ => rfl) o_int (OpensF.cons (s := 1) rfl rfl (by kernel_rfl) (fun _ => rfl) o_int (OpensF.cons (s := 1) rfl rfl (by kernel_rfl) (fun _ => rfl) o_ints OpensF.nil)))))))))))) (fun (p : Int × Int × Int × Int × Int × Int × Int × Int × Int × Int × List Int × Unit) => ⟨p.1, p.2.1, p.2.2.1, p.2.2.2.1, p.2.2.2.2.1, p.2.2.2.2.2.1, p.2.2.2.2.2.2.1, p.2.2.2.2.2.2.2.1, p.2.2.2.2.2.2.2.2.1, p.2.2.2.2.2.2.2.2.2.1, p.2.2.2.2.2.2.2.2.2.2.1⟩) (fun p => ?_) (fun p h => ?_) (fun p => ?_)
 ·simp [tCf, List.append_nil, tI, tL]
 ·obtain ⟨h0, h1, h2, h3, h4, h5, h6, h7, h8, h9, h10, _⟩ := h; exact ⟨h0, h1, h2, h3, h4, h5, h6, h7, h8, h9, h10⟩
 ·exact Nat.le_of_eq (by simp only [bCf, Nat.add_assoc, Nat.add_zero])
structure DPool where
 own : DRef
 free : List DSlot
 old : List DOld
 spent : Int
 deriving DecidableEq, Inhabited
structure DPump where
 on : Bool
 shut : Bool
 over : Bool
 inn : Int
 outs : List Int
 at_ : Int
 value : Int
 deriving DecidableEq, Inhabited
end Go.Proofs.Ytnibnbcmnaflmaa
