/- Joined: XLC, XTypes, XTEq, XTIoR, XTArr. -/
import Derived.Test.YtmljglphegeilaaKAb
import Derived.Test.YtmljglphegeilaaRows
import Derived.KernelRfl
import Derived.Laws.StructEq
namespace Go.Proofs.Ytmljglphegeilaa
set_option linter.unusedVariables false
set_option linter.unusedSimpArgs false
set_option linter.unnecessarySimpa false
open Go.RowKit
def litA (size : Nat) : Nat → List (Nat × List AV) → Option (List (List Tr))
  | _, [] => some []
  | k, (i, cs) :: r => match trsA cs, litA size (k + 1) r with
    | some ts, some m => bif Nat.beq i k && Nat.beq ts.length size then some (ts :: m) else none
    | _, _ => none
theorem fill_lit {size : Nat} : ∀ (ps : List (Nat × Value)) (vss : List (List Value)) (k : Nat) (cells : List Value), ps.length = vss.length → (∀ (j : Nat) i v vs, ps[j]? = some (i, v) → vss[j]? = some vs → i = k + j ∧ v.cells = vs.toArray ∧ vs.length = size) → cells.length = (k + vss.length) * size →
    Instr.fill (fun i => some (i * size, size)) cells.toArray ps = some (cells.take (k * size) ++ vss.flatten).toArray
  | [], [], k, cells, _, _, hc => by
    simp only [List.length_nil, Nat.add_zero] at hc
    simp [Instr.fill, ← hc]
  | [], _ :: _, _, _, h, _, _ => by simp at h
  | _ :: _, [], _, _, h, _, _ => by simp at h
  | (i, v) :: ps, vs :: vss, k, cells, hl, hp, hc => by
    obtain ⟨e1, e2, e3⟩ := hp 0 i v vs rfl rfl
    have e1 : i = k := by omega
    subst e1
    simp only [List.length_cons] at hc
    have hle : i * size + size ≤ cells.length := by
      rw [hc, ← Nat.succ_mul]
      exact Nat.mul_le_mul_right _ (by omega)
    unfold Instr.fill
    simp only [e2, List.size_toArray, e3]
    rw [if_neg (by simp; omega)]
    have hf := fold_set vs 0 (i * size) cells.toArray (by simp; omega)
    have ee : vs.toArray.zipIdx.foldl (fun cs (x : Value × Nat) => cs.setIfInBounds (i * size + x.2) x.1) cells.toArray = (cells.take (i * size) ++ vs ++ cells.drop (i * size + size)).toArray := by
      apply Array.toList_inj.1
      rw [← Array.foldl_toList, Array.toList_zipIdx]
      simpa [e3] using hf
    have ih := fill_lit ps vss (i + 1) (cells.take (i * size) ++ vs ++ cells.drop (i * size + size)) (by simpa using hl) (fun j i' v' vs' h1 h2 => by
      obtain ⟨a, b, c⟩ := hp (j + 1) i' v' vs' (by simpa using h1) (by simpa using h2)
      exact ⟨by omega, b, c⟩) (by
      simp only [List.length_append, List.length_take, List.length_drop, e3]
      rw [show (i + 1 + vss.length) * size = (i + (vss.length + 1)) * size by congr 1; omega, ← hc]
      omega)
    have h5 : (cells.take (i * size) ++ vs ++ cells.drop (i * size + size)).take ((i + 1) * size) = cells.take (i * size) ++ vs := by
      rw [Nat.succ_mul]
      refine List.take_left' ?_
      rw [List.length_append, List.length_take, e3]; omega
    rw [h5] at ih
    rw [List.flatten_cons, ← List.append_assoc, ← ih]
    exact congrArg (fun c => Instr.fill (fun i => some (i * size, size)) c ps) ee
theorem lit_open {e : Env} {n : Fr} {T : Nat → AV} {heap : List Ob} {a : Act} {w : World} {ρ : Rho} {Z Y : Nat → Prop} (hR : Rp e ⟨n, T, heap⟩ a w ρ Z Y) {size : Nat} {ps : List (Nat × Operand)} {qs : List (Nat × List AV)} (hp : Parts n T ps qs) :
    ∀ {k : Nat} {els : List (List Tr)}, litA size k qs = some els → ∃ vss : List (List Value), vss.length = els.length ∧ ps.length = vss.length ∧ (∀ (j : Nat) i v vs, (ps.map (fun x => (x.1, a.eval x.2)))[j]? = some (i, v) → vss[j]? = some vs → i = k + j ∧ v.cells = vs.toArray ∧ vs.length = size) ∧ Elems (Frz w Z) size els vss.flatten := by
  induction hp with
  | nil => intro k els h; cases h; exact ⟨[], rfl, rfl, fun j i v vs h => by simp at h, .nil⟩
  | @cons i x cs ps qs h k ih =>
    intro kk els hl
    unfold litA at hl
    split at hl
    · rename_i ts m h1 h2
      cases hb : (Nat.beq i kk && Nat.beq ts.length size) with
      | false => rw [hb] at hl; cases hl
      | true =>
        rw [hb] at hl
        cases hl
        rw [Bool.and_eq_true] at hb
        have b1 := Nat.eq_of_beq_eq_true hb.1
        have b2 := Nat.eq_of_beq_eq_true hb.2
        subst b1
        obtain ⟨ws, g1, g2, g3⟩ := (hR.eval x).flat h
        obtain ⟨q1, q2⟩ := trsA_open h1 g2
        obtain ⟨vss, v1, v2, v3, v4⟩ := ih h2
        refine ⟨ws :: vss, by simp [v1], by simp [v2], fun j i' v vs hj hv => ?_, ?_⟩
        · cases j with
          | zero => simp at hj hv; obtain ⟨rfl, rfl⟩ := hj; subst hv; exact ⟨rfl, g1, by omega⟩
          | succ j =>
            obtain ⟨a1, a2, a3⟩ := v3 j i' v vs (by simpa using hj) (by simpa using hv)
            exact ⟨by omega, a2, a3⟩
        · rw [List.flatten_cons]
          have h6 : Elems (Frz w Z) size [ts] ws := ⟨by simp; omega, fun c hc => by simp at hc; rw [hc]; exact b2, fun i' c j y u hi hj hu => by
            cases i' with
            | zero => simp at hi; subst hi; exact q2 j y u hj (by simpa using hu)
            | succ i' => simp at hi⟩
          exact h6.append v4
    · cases hl
section
variable {P : Program} {ops : Array Oper} {Q : QS} {rest : List Oper} {o : Oper} {n : Fr} {T : Nat → AV} {heap : List Ob} {d : Nat}
theorem A_lit0 (hw : wantedA n T ops o = true) (hd : o.dst = some d) (t : TypeId) (ho : o.op = .buildSlice t 0 #[]) {e : TypeId} (ht : P.underlying t = some (.slice e)) {z : Option Value} {size bytes : Nat} (hI : (P.info? e).map (fun i => (i.zero, i.size, i.bytes)) = some (z, size, bytes))
    (k : AL P ops Q rest n (pu T d .nl) heap) : AL P ops Q (o :: rest) n T heap := by
  refine AL.act hw hd (fun en a w ρ Z Y hR => ?_) k
  have hrep := hR.ok.rep
  have hsame : ∀ b, b < w.heap.size → (w.alloc (.cells #[] e)).heap[b]? = w.heap[b]? := fun b hb => Below.heap_alloc w _ b hb
  have hm : ∀ x v, Val (Kn heap) ρ w Z Y x v → Val (Kn heap) ρ (w.alloc (.cells #[] e)) Z Y x v := fun x v hv => hrep.val (fun j k hj => ⟨hj, rfl⟩) (fun _ h => h) (fun b hb => ⟨hb, hsame b (hrep.ylt b hb)⟩) hv
  refine ⟨.slice (some ⟨w.heap.size, 0, none⟩) 0 0, w.alloc (.cells #[] e), ρ, Z, Y, ?_, ?_, hm, .nl _⟩
  · refine val_of (s := Instr.buildSlice t 0 #[]) (by unfold execOp; rw [ho]; simp) ?_
    obtain ⟨inf, hin, _, hs, _⟩ := info_of hI
    simp [Instr.buildSlice, run_underlying ht, sizeOf, typeInfo, hin, Result.andThen, Instr.fill, newRow]
    exact congrArg (fun c => w.alloc (Obj.cells c e)) (Array.eq_empty_of_size_eq_zero (by simp))
  · have := hR.ok.push (N := heap.length) (L := []) (heap' := heap) (w' := w.alloc (.cells #[] e)) (ρ' := ρ) (Z' := Z) (Y' := Y) (.push rfl (by simp)) (fun _ _ _ => rfl) ⟨rfl, rfl, rfl⟩ (by simp) hsame (fun _ h => h) (fun _ h => h) hrep.zy (fun b hb => .inl hb) (fun b hb => .inl hb) (fun q o hq => by simp at hq) (fun q r o o' b hq => by simp at hq) (fun q o b hq => by simp at hq)
    exact this
theorem A_lit (hw : wantedA n T ops o = true) (hd : o.dst = some d) (t : TypeId) (len : Nat) (parts : Array (Nat × Operand)) (ho : o.op = .buildSlice t len parts) {e : TypeId} (ht : P.underlying t = some (.slice e)) {z : Value} {size bytes : Nat} (hI : (P.info? e).map (fun i => (i.zero, i.size, i.bytes)) = some (some z, size, bytes))
    {qs : List (Nat × List AV)} (hq : Parts n T parts.toList qs) {els : List (List Tr)} (he : litA size 0 qs = some els) {els' : List (List Tr)} (he' : els = els') (hlen : els'.length = len) (h0 : len * size ≠ 0) (hm : len * size ≤ 16777216) (hn : len ≤ 16777216)
    {heap' : List Ob} {N : Nat} (hat : AtL heap N [.row 0 e size els'] heap') (k : AL P ops Q rest n (pu T d (.sl N 0 len)) heap') : AL P ops Q (o :: rest) n T heap := by
  subst he'
  refine AL.act hw hd (fun en a w ρ Z Y hR => ?_) k
  have hrep := hR.ok.rep
  obtain ⟨vss, v1, v2, v3, v4⟩ := lit_open hR hq he
  obtain ⟨inf, hin, hz, hs, hb⟩ := info_of hI
  have hlen' : vss.flatten.length = len * size := by rw [v4.len, hlen]
  have hfill := fill_lit (size := size) (parts.toList.map (fun x => (x.1, a.eval x.2))) vss 0 ((Array.range (len * size)).map (z.cells[· % z.cells.size]!)).toList (by simpa using v2) v3 (by simp [v1, hlen])
  have hsame : ∀ b, b < w.heap.size → (w.alloc (.cells vss.flatten.toArray e)).heap[b]? = w.heap[b]? := fun b hb => Below.heap_alloc w _ b hb
  have hzz : ∀ b, Z b → Z b ∧ (w.alloc (.cells vss.flatten.toArray e)).heap[b]? = w.heap[b]? := fun b hb => ⟨hb, hsame b (hrep.ylt b (hrep.zy b hb))⟩
  have hrow : (w.alloc (.cells vss.flatten.toArray e)).ownsRow 0 e size (.slice (some ⟨w.heap.size, 0, none⟩) len len) len vss.flatten := by
    have := World.ownsRow_lit (base := 0) (e := e) (size := size) w vss.flatten.toArray len (Nat.zero_le _) (by simp only [maxLen]; omega) (by simpa using hlen')
    simpa using this
  have hl0 : len ≠ 0 := fun h => h0 (by rw [h]; simp)
  obtain ⟨ρ', k1, k2, k3, k4⟩ := hR.ok.push1 (o := .row 0 e size els) hat (w' := w.alloc (.cells vss.flatten.toArray e)) (pl := ⟨some ⟨w.heap.size, 0, none⟩, len, size⟩) ⟨rfl, rfl, rfl⟩ (by simp) hsame
    (fun ρ' hN hρ => ⟨by rw [hN], _, v4.mono fun _ _ h => Frz.mono hzz h, by rw [hN, hlen]; exact .inr ⟨by show 0 < len; omega, hrow⟩⟩)
    (fun b hb _ => by simp at hb; subst hb; simp)
  refine ⟨.slice (some ⟨w.heap.size, 0, none⟩) len len, _, ρ', Z, Y, ?_, k1, k2, ?_⟩
  · refine val_of (s := Instr.buildSlice t len (parts.map (fun (i, x) => (i, a.eval x)))) (by unfold execOp; rw [ho]) ?_
    have e1 : (sizeOf e).run P w = .ok size w := by simp [sizeOf, typeInfo, hin, hs]
    have e2 : (zeroValue e).run P w = .ok z w := by simp [zeroValue, typeInfo, hin, hz]
    have hm' : ¬ (len * size > 2 ^ 24) := by omega
    have e5 : (parts.map (fun (i, x) => (i, a.eval x))).toList = parts.toList.map (fun x => (x.1, a.eval x.2)) := by simp
    simp only [Nat.zero_mul, List.take_zero, List.nil_append] at hfill
    simp only [Instr.buildSlice, Sem.run_bind, run_underlying ht, Result.andThen_ok, e1, if_neg hm', if_neg h0, e2, Sem.run_pure, e5]
    simp only [Array.toArray_toList] at hfill
    simp only [hfill]
    simp [newRow, Result.andThen]
  · have := Val.sl (Kn := Kn heap') (ρ := ρ') (w := w.alloc (.cells vss.flatten.toArray e)) (Z := Z) (Y := Y) (i := N) (k := 0) (n := len) ⟨_, hat.one, Nat.le_refl _⟩ (by rw [k3]; exact Nat.le_refl _) (by rw [k3]; intro e; cases e)
    rw [k3] at this
    exact this
inductive Args (n : Fr) (T : Nat → AV) : List Operand → List AV → Prop
  | nil : Args n T [] []
  | cons {x : Operand} {y : AV} {l : List Operand} {m : List AV} (h : evA n T x = y) (k : Args n T l m) : Args n T (x :: l) (y :: m)
theorem Args.get {l : List Operand} {m : List AV} (h : Args n T l m) : m = l.map (evA n T) := by
  induction h with
  | nil => rfl
  | cons h k ih => rw [ih, ← h]; rfl
theorem A_fn (hw : wantedA n T ops o = true) (hd : o.dst = some d) (f : Fn) (first cap : Array Operand) (ho : o.op = .makeFunc f first cap) {us vs : List AV} (hf : Args n T first.toList us) (hc : Args n T cap.toList vs) (k : AL P ops Q rest n (pu T d (.fn f us vs)) heap) : AL P ops Q (o :: rest) n T heap := by
  refine AL.val hw hd (fun en a w ρ Z Y hR => ?_) k
  have e1 := hf.get
  have e2 := hc.get
  subst e1 e2
  refine ⟨.func f (first.toList.map a.eval).toArray (cap.toList.map a.eval).toArray, val_of (s := Instr.makeFunc f (first.map a.eval) (cap.map a.eval)) (by unfold execOp; rw [ho]) ?_, .fn (by simp) (by simp) (fun j x u hj hu => ?_) (fun j x u hj hu => ?_)⟩
  · have q1 : first.map a.eval = (first.toList.map a.eval).toArray := by apply Array.toList_inj.1; simp
    have q2 : cap.map a.eval = (cap.toList.map a.eval).toArray := by apply Array.toList_inj.1; simp
    rw [q1, q2]; rfl
  · rw [List.getElem?_map] at hj hu
    cases hx : first.toList[j]? with
    | none => rw [hx] at hj; cases hj
    | some y => rw [hx] at hj hu; cases hj; cases hu; exact hR.eval y
  · rw [List.getElem?_map] at hj hu
    cases hx : cap.toList[j]? with
    | none => rw [hx] at hj; cases hj
    | some y => rw [hx] at hj hu; cases hj; cases hu; exact hR.eval y
theorem A_pick (hw : wantedA n T ops o = true) (hd : o.dst = some d) (c x y : Operand) (ho : o.op = .pick c x y) {b : Bool} (hc : evA n T c = .t (.v (.bool b))) {u v : AV} (hx : evA n T x = u) (hy : evA n T y = v) {r : AV} (hr : (bif b then u else v) = r) (k : AL P ops Q rest n (pu T d r) heap) : AL P ops Q (o :: rest) n T heap := by
  subst hx hy hr
  refine AL.val hw hd (fun en a w ρ Z Y hR => ?_) k
  have e1 := cvA_open (u := .bool b) (by rw [hc]; rfl) (hR.eval c)
  refine ⟨if b then a.eval x else a.eval y, ?_, ?_⟩
  · unfold execOp
    simp only [ho, e1]
    cases b <;> simp [asBool, Result.andThen]
  · cases b
    · exact hR.eval y
    · exact hR.eval x
end
inductive FzR (i k : Nat) (els : List (List Tr)) : AV → AV → Prop
  | all {m : Nat} (hm : els.length = m) : FzR i k els (.sl i k m) (.t (.lst els))
  | sl {m : Nat} (hm : m ≤ els.length) : FzR i k els (.sl i k m) (.t (.lst (els.take m)))
  | sub {off m : Nat} (hm : off + m ≤ els.length) : FzR i k els (.sub i k off m) (.t (.lst ((els.drop off).take m)))
  | nlt : FzR i k els .nl (.t (.lst []))
  | same (x : AV) : FzR i k els x x
  | agg {l l' : List AV} (h1 : l.length = l'.length) (h : ∀ (j : Nat) x y, l[j]? = some x → l'[j]? = some y → FzR i k els x y) : FzR i k els (.agg l) (.agg l')
inductive FzL (i k : Nat) (els : List (List Tr)) : List AV → List AV → Prop
  | nil : FzL i k els [] []
  | cons {x y : AV} {l l' : List AV} (h : FzR i k els x y) (g : FzL i k els l l') : FzL i k els (x :: l) (y :: l')
theorem FzL.get {i k : Nat} {els : List (List Tr)} {l l' : List AV} (h : FzL i k els l l') : l.length = l'.length ∧ ∀ (j : Nat) x y, l[j]? = some x → l'[j]? = some y → FzR i k els x y := by
  induction h with
  | nil => exact ⟨rfl, fun j x y h => by simp at h⟩
  | cons h k ih =>
    refine ⟨by simp [ih.1], fun j x y hj hy => ?_⟩
    cases j with
    | zero => simp at hj hy; subst hj hy; exact h
    | succ j => exact ih.2 j x y (by simpa using hj) (by simpa using hy)
theorem FzR.aggL {i k : Nat} {els : List (List Tr)} {l l' : List AV} (h : FzL i k els l l') : FzR i k els (.agg l) (.agg l') := .agg h.get.1 h.get.2
theorem frz_take {w : World} {Z : Nat → Prop} {s : Nat} {a : Option Addr} {c m : Nat} {els : List (List Tr)} {xs : List Value} (hr : Rs w s a els.length c xs) (he : Elems (Frz w Z) s els xs) (hz : xs ≠ [] → Z (adr a).block) (hm : m ≤ els.length) : Frz w Z (.lst (els.take m)) (.slice a m c) :=
  .shut (by rw [List.length_take]; omega) (rs_take hr hm) (fun hne => hz fun e => by rw [e] at hne; simp at hne) (he.take m)
theorem FzR.val {Kn : Nat → Nat → Prop} {ρ : Rho} {w : World} {Z Y : Nat → Prop} {i k : Nat} {els : List (List Tr)} (hf : ∀ m, m ≤ els.length → Frz w Z (.lst (els.take m)) (.slice (ρ i k).a m (ρ i k).c)) (hg : ∀ (off m : Nat) (a : Option Addr) (c : Nat), m ≤ c → c ≤ maxLen → (a = .none → m = 0 ∧ c = 0) → (m ≠ 0 → a = some ((adr (ρ i k).a).add (off * (ρ i k).s))) → off + m ≤ els.length → Frz w Z (.lst ((els.drop off).take m)) (.slice a m c)) {x y : AV} (h : FzR i k els x y) : ∀ {v : Value}, Val Kn ρ w Z Y x v → Val Kn ρ w Z Y y v := by
  induction h with
  | all hm =>
    intro v hv
    cases hv with
    | sl hk hc h0 =>
      have := hf els.length (Nat.le_refl _)
      rw [List.take_length] at this
      subst hm
      exact .t this
  | sl hm =>
    intro v hv
    cases hv with
    | sl hk hc h0 => exact .t (hf _ hm)
  | sub hm =>
    intro v hv
    cases hv with
    | sub hk hn' hmx h0 ha => exact .t (hg _ _ _ _ hn' hmx h0 ha hm)
  | nlt =>
    intro v hv
    cases hv with
    | nl sa => exact .t (.lst (size := 0) (xs := []) ⟨Nat.le_refl _, Nat.zero_le _, fun _ => ⟨rfl, rfl⟩, by simp, fun j u hj => by simp at hj⟩ (fun h => absurd rfl h) rfl (fun _ h => by simp at h) (fun i cs j x u hi => by simp at hi))
  | same x => intro v hv; exact hv
  | agg h1 h ih =>
    intro v hv
    cases hv with
    | agg e1 ho hu =>
      refine .agg (by rw [← h1]; exact e1) ho (fun j y u hj hu' => ?_)
      have hlt := get_lt hj
      rw [← h1] at hlt
      exact ih j _ y (List.getElem?_eq_getElem hlt) hj (hu j _ u (List.getElem?_eq_getElem hlt) hu')
theorem Wk.freeze {n : Fr} {T : Nat → AV} {heap : List Ob} (i : Nat) {k : Nat} {E : TypeId} {s : Nat} {els : List (List Tr)} (hi : heap[i]? = some (.row k E s els)) (d : Nat) {x y : AV} (hd : evA n T (.tmp d) = x) (hr : FzR i k els x y) {heap' : List Ob} (hh : heap.set i (.gone k) = heap') : Wk n T heap (pu T d y) heap' := by
  subst hh hd
  rintro e a w ⟨ρ, Z, Y, hR⟩
  have hrep := hR.ok.rep
  obtain ⟨h1, xs, h2, h3, h4⟩ := hrep.row hi
  have hz : ∀ b, Z b → (Z b ∨ (Ob.row k E s els).blk ρ i = some b) ∧ w.heap[b]? = w.heap[b]? := fun b hb => ⟨.inl hb, rfl⟩
  have hy : ∀ b, Y b → (Y b ∨ (Ob.row k E s els).blk ρ i = some b) ∧ w.heap[b]? = w.heap[b]? := fun b hb => ⟨.inl hb, rfl⟩
  have hm : ∀ x v, Val (Kn heap) ρ w Z Y x v → Val (Kn (heap.set i (.gone k))) ρ w (fun b => Z b ∨ (Ob.row k E s els).blk ρ i = some b) (fun b => Y b ∨ (Ob.row k E s els).blk ρ i = some b) x v := fun x v hv =>
    hv.mono (fun j q hj => ⟨hj.set hi (Nat.le_refl _), rfl⟩) hz hy
  have hok : Ok e (heap.set i (.gone k)) w ρ (fun b => Z b ∨ (Ob.row k E s els).blk ρ i = some b) (fun b => Y b ∨ (Ob.row k E s els).blk ρ i = some b) := by
    refine hR.ok.mono (hrep.freeze hi) (fun j q hj => ⟨hj.set hi (Nat.le_refl _), rfl⟩) ⟨rfl, rfl, rfl⟩ (Nat.le_refl _) (fun j p b hj hp => ?_) (fun b hb => .inl hb) (fun b hb => .inl hb) (fun b hb => hb.elim .inl fun hb => .inr (hR.ok.dom i _ b hi hb)) (fun _ _ _ => rfl)
    rw [List.getElem?_set] at hj
    split at hj
    · split at hj <;> cases hj
      cases hp
    · exact hR.ok.dom j p b hj hp
  have hblk : xs ≠ [] → Z (adr (ρ i k).a).block ∨ (Ob.row k E s els).blk ρ i = some (adr (ρ i k).a).block := fun hne => .inr (by
    rcases h3 with ⟨_, _, e⟩ | ⟨hc, hh⟩
    · exact absurd e hne
    · simp only [Ob.blk]
      rw [if_neg (by omega)]
      cases ha : (ρ i k).a with
      | some b => rfl
      | none =>
        rw [ha] at hh
        rcases hh.2 with ⟨e, _⟩ | ⟨g, cap, cur, e, _⟩
        · simp only [Value.slice.injEq] at e; omega
        · simp at e)
  have hfz : ∀ m, m ≤ els.length → Frz w (fun b => Z b ∨ (Ob.row k E s els).blk ρ i = some b) (.lst (els.take m)) (.slice (ρ i k).a m (ρ i k).c) := fun m hm =>
    frz_take h4 (h2.mono fun _ _ h => Frz.mono hz h) hblk hm
  have hgz : ∀ (off m : Nat) (a : Option Addr) (c : Nat), m ≤ c → c ≤ maxLen → (a = .none → m = 0 ∧ c = 0) → (m ≠ 0 → a = some ((adr (ρ i k).a).add (off * (ρ i k).s))) → off + m ≤ els.length → Frz w (fun b => Z b ∨ (Ob.row k E s els).blk ρ i = some b) (.lst ((els.drop off).take m)) (.slice a m c) := by
    intro off m a c hn' hmx h0 ha hle
    have e : ((els.drop off).take m).length = m := by rw [List.length_take, List.length_drop]; omega
    have hm0 : ∀ {q : List Value}, q = (xs.drop (off * s)).take (m * s) → q ≠ [] → m ≠ 0 := fun e1 hne e2 => hne (by rw [e1, e2]; simp)
    have hE := (((h2.mono fun _ _ h => Frz.mono hz h).drop off).take m)
    refine .shut (xs := (xs.drop (off * s)).take (m * s)) (size := s) e ⟨hn', hmx, h0, ?_, fun j u hj => ?_⟩ (fun hne => ?_) hE
    · have := hE.len
      rw [e] at this; exact this
    · have hne := hm0 rfl (fun e => by rw [e] at hj; simp at hj)
      rw [List.getElem?_take] at hj
      split at hj
      · rw [ha hne, List.getElem?_drop] at *
        show w.cell? (Addr.add ((adr (ρ i k).a).add _) j) = _
        rw [add_add, h1]
        exact h4.cells _ u hj
      · cases hj
    · have hne' := hm0 rfl hne
      rw [ha hne']
      show Z (Addr.add _ _).block ∨ _ = some (Addr.add _ _).block
      rw [add_block]
      exact hblk (fun e => by rw [e] at hne; simp at hne)
  have hv := hR.eval (.tmp d)
  have h5 := hR.move hok hm
  have h6 := FzR.val hfz hgz hr (hm _ _ hv)
  refine ⟨ρ, _, _, h5.ok, h5.defers, h5.n, h5.hl, fun t v ht => ?_⟩
  by_cases c : t = d
  · subst c
    show Val _ _ _ _ _ (pu T t y t) v
    simp only [pu, Nat.beq_refl, cond_true]
    simp only [Act.eval, Array.getD_eq_getD_getElem?, ht, Option.getD_some] at h6
    exact h6
  · show Val _ _ _ _ _ (pu T d y t) v
    have h1 : Nat.beq t d = false := by
      cases hb : Nat.beq t d
      · rfl
      · exact absurd (Nat.eq_of_beq_eq_true hb) c
    simp only [pu, h1, cond_false]
    exact h5.at_ t v ht
end Go.Proofs.Ytmljglphegeilaa

namespace Go.Proofs.Ytmljglphegeilaa
set_option linter.unusedVariables false
set_option linter.unusedSimpArgs false
set_option linter.unnecessarySimpa false
open Go.RowKit
def idsA : AV → List Nat
  | .sl i _ _ => [i]
  | .sub i _ _ _ => [i]
  | _ => []
section
variable {P : Program} {ops : Array Oper} {rest : List Oper} {o : Oper} {n : Fr} {T T' : Nat → AV} {heap h' : List Ob} {d : Nat}
theorem ev_eq (hT : ∀ t ∈ o.looksAt ops, T' t = T t) {x : Operand} (hx : x ∈ o.op.operands.toList) : evA n T' x = evA n T x := by
  cases x with
  | tmp t =>
    have : t ∈ o.looksAt ops := List.mem_append_left _ (List.mem_filterMap.2 ⟨.tmp t, hx, rfl⟩)
    simp only [evA, hT t this]
  | _ => rfl
theorem wanted_eqA (hT : ∀ t ∈ o.looksAt ops, T' t = T t) : wantedA n T' ops o = wantedA n T ops o := by
  unfold wantedA
  cases hg : o.guard with
  | none => rfl
  | some q =>
    obtain ⟨j, want⟩ := q
    simp only
    cases hd : (ops[j]?).bind (·.dst) with
    | none => rfl
    | some d =>
      have : d ∈ o.looksAt ops := List.mem_append_right _ (by simp [hg, hd])
      simp only [evA, hT d this]
theorem skips_eq (hT : ∀ t ∈ o.looksAt ops, T' t = T t) : skipsA n T' ops o = skipsA n T ops o := by
  unfold skipsA
  cases hg : o.guard with
  | none => rfl
  | some q =>
    obtain ⟨j, want⟩ := q
    simp only
    cases hd : (ops[j]?).bind (·.dst) with
    | none => rfl
    | some d =>
      have : d ∈ o.looksAt ops := List.mem_append_right _ (by simp [hg, hd])
      simp only [evA, hT d this]
theorem Rd.agree {s : Nat} {x : AV} {els : List (List Tr)} (hh : ∀ i ∈ idsA x, h'[i]? = heap[i]?) (h : Rd heap s x els) : Rd h' s x els := by
  cases h with
  | ln h => exact .ln h
  | lst h => exact .lst h
  | nl => exact .nl
  | sl hi hm => exact .sl (by rw [hh _ (by simp [idsA])]; exact hi) hm
  | all hi hm => exact .all (by rw [hh _ (by simp [idsA])]; exact hi) hm
  | sub hi hm => exact .sub (by rw [hh _ (by simp [idsA])]; exact hi) hm
theorem Parts.agree (hT : ∀ t ∈ o.looksAt ops, T' t = T t) {ps : List (Nat × Operand)} {qs : List (Nat × List AV)} (hp : ∀ y, (∃ i, (i, y) ∈ ps) → y ∈ o.op.operands.toList) (h : Parts n T ps qs) : Parts n T' ps qs := by
  induction h with
  | nil => exact .nil
  | @cons i x cs ps qs h k ih => exact .cons (by rw [ev_eq hT (hp x ⟨i, by simp⟩)]; exact h) (ih fun y ⟨j, hy⟩ => hp y ⟨j, List.mem_cons_of_mem _ hy⟩)
theorem Args.agree (hT : ∀ t ∈ o.looksAt ops, T' t = T t) {l : List Operand} {m : List AV} (hy : ∀ x ∈ l, x ∈ o.op.operands.toList) (h : Args n T l m) : Args n T' l m := by
  induction h with
  | nil => exact .nil
  | @cons x y l m h k ih => exact .cons (by rw [ev_eq hT (hy x (List.mem_cons_self ..))]; exact h) (ih fun y h => hy y (List.mem_cons_of_mem _ h))
theorem Bd.agree (hT : ∀ t ∈ o.looksAt ops, T' t = T t) {y : Option Operand} {m l : Nat} (hy : ∀ x, y = some x → x ∈ o.op.operands.toList) (h : Bd n T y m l) : Bd n T' y m l := by
  cases h with
  | no => exact .no _
  | yes h h0 hl => exact .yes (by rw [ev_eq hT (hy _ rfl)]; exact h) h0 hl
theorem at_hole {N : Nat} {o : Ob} (h : heap[N]? = some .hole) : ∀ q, q < [o].length → heap[N + q]? = some .hole := fun q hq => by
  have : q = 0 := by simpa using hq
  subst this; exact h
theorem setsAt_one {N : Nat} {o : Ob} (h : heap[N]? = some .hole) : setsAt heap N [o] = heap.set N o := by
  apply List.ext_getElem?
  intro j
  rw [setsAt_get (at_hole h), List.getElem?_set]
  simp only [List.length_singleton]
  by_cases e : N = j
  · subst e
    rw [if_pos ⟨by omega, by omega⟩, if_pos rfl, if_pos (get_lt h)]; simp
  · rw [if_neg (by omega), if_neg e]
theorem R_skip (hw : skipsA n T ops o = true) (hd : o.dst = some d) {F : List Dl → (Nat → AV) → List Ob → Prop} {acc : List Dl} (k : RG P ops n F rest (acc ++ [⟨some d, .tup [], [], []⟩]) (pu T d (.tup [])) heap) : RG P ops n F (o :: rest) acc T heap :=
  RG.cons hd.symm (fun T' h' hT hH hlen_ => AL.skip (by rw [skips_eq hT]; exact hw) hd (AL.nil ⟨rfl, rfl, rfl⟩)) rfl rfl k
theorem R_skip0 (hw : skipsA n T ops o = true) (hd : o.dst = none) {F : List Dl → (Nat → AV) → List Ob → Prop} {acc : List Dl} (k : RG P ops n F rest (acc ++ [⟨none, .any, [], []⟩]) T heap) : RG P ops n F (o :: rest) acc T heap :=
  RG.cons hd.symm (fun T' h' hT hH hlen_ => AL.skip0 (by rw [skips_eq hT]; exact hw) hd (AL.nil ⟨rfl, rfl, rfl⟩)) rfl rfl k
theorem R_move {F : List Dl → (Nat → AV) → List Ob → Prop} {acc : List Dl} (hw : wantedA n T ops o = true) (hd : o.dst = some d) (x : Operand) (ho : o.op = .move x ∨ o.op = .assign x) {y : AV} (hx : evA n T x = y) (k : RG P ops n F rest (acc ++ [⟨some d, y, [], []⟩]) (pu T d y) heap) : RG P ops n F (o :: rest) acc T heap := by
  exact RG.cons hd.symm (fun T' h' hT hH hlen_ => A_move (by rw [wanted_eqA hT]; exact hw) hd x ho (by rw [ev_eq hT (by rcases ho with ho | ho <;> simp [ho, Op.operands])]; exact hx) (AL.nil ⟨rfl, rfl, rfl⟩)) rfl (by first | rfl | exact hh) k
theorem R_box {F : List Dl → (Nat → AV) → List Ob → Prop} {acc : List Dl} (hw : wantedA n T ops o = true) (hd : o.dst = some d) (t : TypeId) (x : Operand) (ho : o.op = .box t x) {cs : List AV} (hx : (evA n T x).flat = some cs) {heap' : List Ob} {N : Nat} (hat : heap[N]? = some .hole) (hh : heap.set N (.box t cs) = heap') (k : RG P ops n F rest (acc ++ [⟨some d, (.ptr N 0), [(N, .box t cs)], [N]⟩]) (pu T d (.ptr N 0)) heap') : RG P ops n F (o :: rest) acc T heap := by
  exact RG.cons hd.symm (fun T' h' hT hH hlen_ => A_box (by rw [wanted_eqA hT]; exact hw) hd t x ho (by rw [ev_eq hT (by simp [ho, Op.operands, Call.operands])]; exact hx) (.fill (at_hole (by rw [hH N (by simp)]; exact hat)) (setsAt_one (by rw [hH N (by simp)]; exact hat))) (AL.nil ⟨rfl, rfl, rfl⟩)) rfl (by first | rfl | exact hh) k
theorem R_alloc {F : List Dl → (Nat → AV) → List Ob → Prop} {acc : List Dl} (hw : wantedA n T ops o = true) (hd : o.dst = some d) (t : TypeId) (ho : o.op = .alloc t) {z : Value} {size bytes : Nat} (hI : (P.info? t).map (fun i => (i.zero, i.size, i.bytes)) = some (some z, size, bytes)) {cs : List AV} (hx : (ofConst z).flat = some cs) {heap' : List Ob} {N : Nat} (hat : heap[N]? = some .hole) (hh : heap.set N (.box t cs) = heap') (k : RG P ops n F rest (acc ++ [⟨some d, (.ptr N 0), [(N, .box t cs)], [N]⟩]) (pu T d (.ptr N 0)) heap') : RG P ops n F (o :: rest) acc T heap := by
  exact RG.cons hd.symm (fun T' h' hT hH hlen_ => A_alloc (by rw [wanted_eqA hT]; exact hw) hd t ho hI hx (.fill (at_hole (by rw [hH N (by simp)]; exact hat)) (setsAt_one (by rw [hH N (by simp)]; exact hat))) (AL.nil ⟨rfl, rfl, rfl⟩)) rfl (by first | rfl | exact hh) k
theorem R_field {F : List Dl → (Nat → AV) → List Ob → Prop} {acc : List Dl} (hw : wantedA n T ops o = true) (hd : o.dst = some d) (t : TypeId) (x : Operand) (f : Nat) (ho : o.op = .fieldAddr t x f) {fs : Array Field} (hu : P.underlying t = some (.struct fs)) {fd : Field} (hf : fs[f]? = some fd) {z : Option Value} {size bytes : Nat} (hI : (P.info? fd.type).map (fun i => (i.zero, i.size, i.bytes)) = some (z, size, bytes)) (hs : size ≠ 0) (m : Nat) (hm : fd.offset = m) {y : AV} (hy : shiftA m (evA n T x) = some y) (k : RG P ops n F rest (acc ++ [⟨some d, y, [], []⟩]) (pu T d y) heap) : RG P ops n F (o :: rest) acc T heap := by
  exact RG.cons hd.symm (fun T' h' hT hH hlen_ => A_field (by rw [wanted_eqA hT]; exact hw) hd t x f ho hu hf hI hs m hm (by rw [ev_eq hT (by simp [ho, Op.operands, Call.operands])]; exact hy) (AL.nil ⟨rfl, rfl, rfl⟩)) rfl (by first | rfl | exact hh) k
theorem R_load {F : List Dl → (Nat → AV) → List Ob → Prop} {acc : List Dl} (hw : wantedA n T ops o = true) (hd : o.dst = some d) (t : TypeId) (x : Operand) (ho : o.op = .load t x) {ds : TypeDesc} (hu : P.underlying t = some ds) (hds : (match ds with | .struct _ | .array _ _ => true | _ => false) = false) {i off : Nat} (hx : evA n T x = .ptr i off) {t' : TypeId} {cs : List AV} (hi : heap[i]? = some (.box t' cs)) {u : AV} (hc : cs[off]? = some u) (k : RG P ops n F rest (acc ++ [⟨some d, u, [], [i]⟩]) (pu T d u) heap) : RG P ops n F (o :: rest) acc T heap := by
  exact RG.cons hd.symm (fun T' h' hT hH hlen_ => A_load (by rw [wanted_eqA hT]; exact hw) hd t x ho hu hds (by rw [ev_eq hT (by simp [ho, Op.operands, Call.operands])]; exact hx) (by rw [hH i (by simp)]; exact hi) hc (AL.nil ⟨rfl, rfl, rfl⟩)) rfl (by first | rfl | exact hh) k
theorem R_load_agg {F : List Dl → (Nat → AV) → List Ob → Prop} {acc : List Dl} (hw : wantedA n T ops o = true) (hd : o.dst = some d) (t : TypeId) (x : Operand) (ho : o.op = .load t x) {ds : TypeDesc} (hu : P.underlying t = some ds) (hds : (match ds with | .struct _ | .array _ _ => true | _ => false) = true) {z : Option Value} {size bytes : Nat} (hI : (P.info? t).map (fun i => (i.zero, i.size, i.bytes)) = some (z, size, bytes)) {i off : Nat} (hx : evA n T x = .ptr i off) {t' : TypeId} {cs : List AV} (hi : heap[i]? = some (.box t' cs)) {us' : List AV} (hc : (cs.drop off).take size = us') (hl : us'.length = size) (k : RG P ops n F rest (acc ++ [⟨some d, (.agg us'), [], [i]⟩]) (pu T d (.agg us')) heap) : RG P ops n F (o :: rest) acc T heap := by
  exact RG.cons hd.symm (fun T' h' hT hH hlen_ => A_load_agg (by rw [wanted_eqA hT]; exact hw) hd t x ho hu hds hI (by rw [ev_eq hT (by simp [ho, Op.operands, Call.operands])]; exact hx) (by rw [hH i (by simp)]; exact hi) hc hl (AL.nil ⟨rfl, rfl, rfl⟩)) rfl (by first | rfl | exact hh) k
theorem R_load_lp {F : List Dl → (Nat → AV) → List Ob → Prop} {acc : List Dl} (hw : wantedA n T ops o = true) (hd : o.dst = some d) (t : TypeId) (x : Operand) (ho : o.op = .load t x) {ds : TypeDesc} (hu : P.underlying t = some ds) (hds : (match ds with | .struct _ | .array _ _ => true | _ => false) = false) {cs : List AV} (hx : evA n T x = .lp cs) {u : AV} (hc : cs[0]? = some u) (k : RG P ops n F rest (acc ++ [⟨some d, u, [], []⟩]) (pu T d u) heap) : RG P ops n F (o :: rest) acc T heap := by
  exact RG.cons hd.symm (fun T' h' hT hH hlen_ => A_load_lp (by rw [wanted_eqA hT]; exact hw) hd t x ho hu hds (by rw [ev_eq hT (by simp [ho, Op.operands, Call.operands])]; exact hx) hc (AL.nil ⟨rfl, rfl, rfl⟩)) rfl (by first | rfl | exact hh) k
theorem R_load_lp_agg {F : List Dl → (Nat → AV) → List Ob → Prop} {acc : List Dl} (hw : wantedA n T ops o = true) (hd : o.dst = some d) (t : TypeId) (x : Operand) (ho : o.op = .load t x) {ds : TypeDesc} (hu : P.underlying t = some ds) (hds : (match ds with | .struct _ | .array _ _ => true | _ => false) = true) {z : Option Value} {size bytes : Nat} (hI : (P.info? t).map (fun i => (i.zero, i.size, i.bytes)) = some (z, size, bytes)) {cs : List AV} (hx : evA n T x = .lp cs) {us' : List AV} (hc : cs.take size = us') (hl : us'.length = size) (k : RG P ops n F rest (acc ++ [⟨some d, (.agg us'), [], []⟩]) (pu T d (.agg us')) heap) : RG P ops n F (o :: rest) acc T heap := by
  exact RG.cons hd.symm (fun T' h' hT hH hlen_ => A_load_lp_agg (by rw [wanted_eqA hT]; exact hw) hd t x ho hu hds hI (by rw [ev_eq hT (by simp [ho, Op.operands, Call.operands])]; exact hx) hc hl (AL.nil ⟨rfl, rfl, rfl⟩)) rfl (by first | rfl | exact hh) k
theorem R_load_rp {F : List Dl → (Nat → AV) → List Ob → Prop} {acc : List Dl} (hw : wantedA n T ops o = true) (hd : o.dst = some d) (t : TypeId) (x : Operand) (ho : o.op = .load t x) {ds : TypeDesc} (hu : P.underlying t = some ds) (hds : (match ds with | .struct _ | .array _ _ => true | _ => false) = false) {i k' idx off : Nat} (hx : evA n T x = .rp i k' idx off) {E : TypeId} {s : Nat} {els : List (List Tr)} (hi : heap[i]? = some (.row k' E s els)) {cs : List Tr} (he : els[idx]? = some cs) {u : Tr} (hc : cs[off]? = some u) (k : RG P ops n F rest (acc ++ [⟨some d, (.t u), [], [i]⟩]) (pu T d (.t u)) heap) : RG P ops n F (o :: rest) acc T heap := by
  exact RG.cons hd.symm (fun T' h' hT hH hlen_ => A_load_rp (by rw [wanted_eqA hT]; exact hw) hd t x ho hu hds (by rw [ev_eq hT (by simp [ho, Op.operands, Call.operands])]; exact hx) (by rw [hH i (by simp)]; exact hi) he hc (AL.nil ⟨rfl, rfl, rfl⟩)) rfl (by first | rfl | exact hh) k
theorem R_load_rp_agg {F : List Dl → (Nat → AV) → List Ob → Prop} {acc : List Dl} (hw : wantedA n T ops o = true) (hd : o.dst = some d) (t : TypeId) (x : Operand) (ho : o.op = .load t x) {ds : TypeDesc} (hu : P.underlying t = some ds) (hds : (match ds with | .struct _ | .array _ _ => true | _ => false) = true) {z : Option Value} {size bytes : Nat} (hI : (P.info? t).map (fun i => (i.zero, i.size, i.bytes)) = some (z, size, bytes)) {i k' idx off : Nat} (hx : evA n T x = .rp i k' idx off) {E : TypeId} {s : Nat} {els : List (List Tr)} (hi : heap[i]? = some (.row k' E s els)) {cs : List Tr} (he : els[idx]? = some cs) {us' : List AV} (hc : ((cs.drop off).take size).map .t = us') (hl : us'.length = size) (k : RG P ops n F rest (acc ++ [⟨some d, (.agg us'), [], [i]⟩]) (pu T d (.agg us')) heap) : RG P ops n F (o :: rest) acc T heap := by
  exact RG.cons hd.symm (fun T' h' hT hH hlen_ => A_load_rp_agg (by rw [wanted_eqA hT]; exact hw) hd t x ho hu hds hI (by rw [ev_eq hT (by simp [ho, Op.operands, Call.operands])]; exact hx) (by rw [hH i (by simp)]; exact hi) he hc hl (AL.nil ⟨rfl, rfl, rfl⟩)) rfl (by first | rfl | exact hh) k
theorem R_idx {F : List Dl → (Nat → AV) → List Ob → Prop} {acc : List Dl} (hw : wantedA n T ops o = true) (hd : o.dst = some d) (t : TypeId) (x ix : Operand) (ho : o.op = .indexAddr t x ix) {e : TypeId} (ht : P.underlying t = some (.slice e)) {z : Option Value} {size bytes : Nat} (hI : (P.info? e).map (fun i => (i.zero, i.size, i.bytes)) = some (z, size, bytes)) (hsz : size ≠ 0) {els : List (List Tr)} (hx : evA n T x = .ln els ∨ evA n T x = .t (.lst els)) {kd : IntKind} {I : Int} (hix : evA n T ix = .t (.v (.int kd I))) (h0I : 0 ≤ I) (J : Nat) (hJ : I.toNat = J) {cs : List Tr} (he : els[J]? = some cs) (hs : cs.length = size) {cs' : List AV} (hc : cs.map .t = cs') (k : RG P ops n F rest (acc ++ [⟨some d, (.lp cs'), [], []⟩]) (pu T d (.lp cs')) heap) : RG P ops n F (o :: rest) acc T heap := by
  exact RG.cons hd.symm (fun T' h' hT hH hlen_ => A_idx (by rw [wanted_eqA hT]; exact hw) hd t x ix ho ht hI hsz (by rw [ev_eq hT (by simp [ho, Op.operands, Call.operands])]; exact hx) (by rw [ev_eq hT (by simp [ho, Op.operands, Call.operands])]; exact hix) h0I J hJ he hs hc (AL.nil ⟨rfl, rfl, rfl⟩)) rfl (by first | rfl | exact hh) k
theorem R_idx_sl {F : List Dl → (Nat → AV) → List Ob → Prop} {acc : List Dl} (hw : wantedA n T ops o = true) (hd : o.dst = some d) (t : TypeId) (x ix : Operand) (ho : o.op = .indexAddr t x ix) {e : TypeId} (ht : P.underlying t = some (.slice e)) {z : Option Value} {size bytes : Nat} (hI : (P.info? e).map (fun i => (i.zero, i.size, i.bytes)) = some (z, size, bytes)) {i k' m : Nat} (hx : evA n T x = .sl i k' m) {E : TypeId} {els : List (List Tr)} (hi : heap[i]? = some (.row k' E size els)) (hm : m ≤ els.length) {kd : IntKind} {I : Int} (hix : evA n T ix = .t (.v (.int kd I))) (h0I : 0 ≤ I) (J : Nat) (hJ : I.toNat = J) (hlt : J < m) (k : RG P ops n F rest (acc ++ [⟨some d, (.rp i k' J 0), [], [i]⟩]) (pu T d (.rp i k' J 0)) heap) : RG P ops n F (o :: rest) acc T heap := by
  exact RG.cons hd.symm (fun T' h' hT hH hlen_ => A_idx_sl (by rw [wanted_eqA hT]; exact hw) hd t x ix ho ht hI (by rw [ev_eq hT (by simp [ho, Op.operands, Call.operands])]; exact hx) (by rw [hH i (by simp)]; exact hi) hm (by rw [ev_eq hT (by simp [ho, Op.operands, Call.operands])]; exact hix) h0I J hJ hlt (AL.nil ⟨rfl, rfl, rfl⟩)) rfl (by first | rfl | exact hh) k
theorem R_idx_sub {F : List Dl → (Nat → AV) → List Ob → Prop} {acc : List Dl} (hw : wantedA n T ops o = true) (hd : o.dst = some d) (t : TypeId) (x ix : Operand) (ho : o.op = .indexAddr t x ix) {e : TypeId} (ht : P.underlying t = some (.slice e)) {z : Option Value} {size bytes : Nat} (hI : (P.info? e).map (fun i => (i.zero, i.size, i.bytes)) = some (z, size, bytes)) {i k' off m : Nat} (hx : evA n T x = .sub i k' off m) {E : TypeId} {els : List (List Tr)} (hi : heap[i]? = some (.row k' E size els)) {kd : IntKind} {I : Int} (hix : evA n T ix = .t (.v (.int kd I))) (h0I : 0 ≤ I) (J : Nat) (hJ : I.toNat = J) (hlt : J < m) (k : RG P ops n F rest (acc ++ [⟨some d, (.rp i k' (off + J) 0), [], [i]⟩]) (pu T d (.rp i k' (off + J) 0)) heap) : RG P ops n F (o :: rest) acc T heap := by
  exact RG.cons hd.symm (fun T' h' hT hH hlen_ => A_idx_sub (by rw [wanted_eqA hT]; exact hw) hd t x ix ho ht hI (by rw [ev_eq hT (by simp [ho, Op.operands, Call.operands])]; exact hx) (by rw [hH i (by simp)]; exact hi) (by rw [ev_eq hT (by simp [ho, Op.operands, Call.operands])]; exact hix) h0I J hJ hlt (AL.nil ⟨rfl, rfl, rfl⟩)) rfl (by first | rfl | exact hh) k
theorem R_store {F : List Dl → (Nat → AV) → List Ob → Prop} {acc : List Dl} (hw : wantedA n T ops o = true) (hd : o.dst = none) (t : TypeId) (x y : Operand) (ho : o.op = .store t x y) {z : Option Value} {size bytes : Nat} (hI : (P.info? t).map (fun i => (i.zero, i.size, i.bytes)) = some (z, size, bytes)) {i off : Nat} (hx : evA n T x = .ptr i off) {t' : TypeId} {cs : List AV} (hi : heap[i]? = some (.box t' cs)) {us : List AV} (hy : (evA n T y).flat = some us) (hl : us.length = size) (hf : off + us.length ≤ cs.length) {cs' : List AV} (hc : cs.take off ++ us ++ cs.drop (off + us.length) = cs') {heap' : List Ob} (hh : heap.set i (.box t' cs') = heap') (k : RG P ops n F rest (acc ++ [⟨none, .any, [(i, .box t' cs')], [i]⟩]) T heap') : RG P ops n F (o :: rest) acc T heap := by
  exact RG.cons hd.symm (fun T' h' hT hH hlen_ => A_store (by rw [wanted_eqA hT]; exact hw) hd t x y ho hI (by rw [ev_eq hT (by simp [ho, Op.operands, Call.operands])]; exact hx) (by rw [hH i (by simp)]; exact hi) (by rw [ev_eq hT (by simp [ho, Op.operands, Call.operands])]; exact hy) hl hf hc rfl (AL.nil ⟨rfl, rfl, rfl⟩)) rfl (by first | rfl | exact hh) k
theorem R_store_rp {F : List Dl → (Nat → AV) → List Ob → Prop} {acc : List Dl} (hw : wantedA n T ops o = true) (hd : o.dst = none) (t : TypeId) (x y : Operand) (ho : o.op = .store t x y) {z : Option Value} {tsize bytes : Nat} (hI : (P.info? t).map (fun i => (i.zero, i.size, i.bytes)) = some (z, tsize, bytes)) (ht0 : tsize ≠ 0) {i k' idx off : Nat} (hx : evA n T x = .rp i k' idx off) {E : TypeId} {s : Nat} {els : List (List Tr)} (hi : heap[i]? = some (.row k' E s els)) {cs : List Tr} (he : els[idx]? = some cs) {us : List AV} (hy : (evA n T y).flat = some us) (hl : us.length = tsize) {ts : List Tr} (hts : trsA us = some ts) (hf : off + ts.length ≤ s) {els' : List (List Tr)} (hc : els.set idx (cs.take off ++ ts ++ cs.drop (off + ts.length)) = els') {heap' : List Ob} (hh : heap.set i (.row k' E s els') = heap') (k : RG P ops n F rest (acc ++ [⟨none, .any, [(i, .row k' E s els')], [i]⟩]) T heap') : RG P ops n F (o :: rest) acc T heap := by
  exact RG.cons hd.symm (fun T' h' hT hH hlen_ => A_store_rp (by rw [wanted_eqA hT]; exact hw) hd t x y ho hI ht0 (by rw [ev_eq hT (by simp [ho, Op.operands, Call.operands])]; exact hx) (by rw [hH i (by simp)]; exact hi) he (by rw [ev_eq hT (by simp [ho, Op.operands, Call.operands])]; exact hy) hl hts hf hc rfl (AL.nil ⟨rfl, rfl, rfl⟩)) rfl (by first | rfl | exact hh) k
theorem R_len {F : List Dl → (Nat → AV) → List Ob → Prop} {acc : List Dl} (hw : wantedA n T ops o = true) (hd : o.dst = some d) (t : TypeId) (x : Operand) (ho : o.op = .call { callee := .builtin .len, args := #[x], argTypes := #[t] }) {e : TypeId} (ht : P.underlying t = some (.slice e)) {m : Nat} (hx : lenA (evA n T x) = some m) (k : RG P ops n F rest (acc ++ [⟨some d, (.t (.v (.int .i64 (m : Int)))), [], []⟩]) (pu T d (.t (.v (.int .i64 (m : Int))))) heap) : RG P ops n F (o :: rest) acc T heap := by
  exact RG.cons hd.symm (fun T' h' hT hH hlen_ => A_len (by rw [wanted_eqA hT]; exact hw) hd t x ho ht (by rw [ev_eq hT (by simp [ho, Op.operands, Call.operands])]; exact hx) (AL.nil ⟨rfl, rfl, rfl⟩)) rfl (by first | rfl | exact hh) k
theorem R_append {F : List Dl → (Nat → AV) → List Ob → Prop} {acc : List Dl} (hw : wantedA n T ops o = true) (hd : o.dst = some d) (s x : Operand) (t : TypeId) (ho : o.op = .call { callee := .builtin .append, args := #[s, x], argTypes := #[t, t] }) {e : TypeId} (ht : P.underlying t = some (.slice e)) {z : Value} {size bytes : Nat} (hI : (P.info? e).map (fun i => (i.zero, i.size, i.bytes)) = some (some z, size, bytes)) (hzs : z.cells.size = size) {i k' m : Nat} (hs : evA n T s = .sl i k' m) {els : List (List Tr)} (hi : heap[i]? = some (.row k' e size els)) (hm : m ≤ els.length) {news : List (List Tr)} (hx : Rd heap size (evA n T x) news) (b1 : m + news.length ≤ maxLen) (b2 : (m + news.length) * bytes ≤ 140737488355328) {els' : List (List Tr)} (he : els.take m ++ news = els') {heap' : List Ob} (hh : heap.set i (.row (k' + 1) e size els') = heap') {m' : Nat} (hm' : m + news.length = m') (k : RG P ops n F rest (acc ++ [⟨some d, (.sl i (k' + 1) m'), [(i, .row (k' + 1) e size els')], (i :: idsA (evA n T x))⟩]) (pu T d (.sl i (k' + 1) m')) heap') : RG P ops n F (o :: rest) acc T heap := by
  exact RG.cons hd.symm (fun T' h' hT hH hlen_ => A_append (by rw [wanted_eqA hT]; exact hw) hd s x t ho ht hI hzs (by rw [ev_eq hT (by simp [ho, Op.operands, Call.operands])]; exact hs) (by rw [hH i (by simp)]; exact hi) hm (Rd.agree (fun i hi => hH i (by rw [ev_eq hT (by simp [ho, Op.operands, Call.operands])] at hi; simp [hi])) (by rw [ev_eq hT (by simp [ho, Op.operands, Call.operands])]; exact hx)) b1 b2 he rfl hm' (AL.nil ⟨rfl, rfl, rfl⟩)) rfl (by first | rfl | exact hh) k
theorem R_append_nl {F : List Dl → (Nat → AV) → List Ob → Prop} {acc : List Dl} (hw : wantedA n T ops o = true) (hd : o.dst = some d) (s x : Operand) (t : TypeId) (ho : o.op = .call { callee := .builtin .append, args := #[s, x], argTypes := #[t, t] }) {e : TypeId} (ht : P.underlying t = some (.slice e)) {z : Value} {size bytes : Nat} (hI : (P.info? e).map (fun i => (i.zero, i.size, i.bytes)) = some (some z, size, bytes)) (hzs : z.cells.size = size) (hs : evA n T s = .nl) {news : List (List Tr)} (hx : Rd heap size (evA n T x) news) (b1 : news.length ≤ maxLen) (b2 : news.length * bytes ≤ 140737488355328) {els' : List (List Tr)} (he : news = els') {heap' : List Ob} {N : Nat} (hat : heap[N]? = some .hole) (hh : heap.set N (.row 0 e size els') = heap') {m' : Nat} (hm' : news.length = m') (k : RG P ops n F rest (acc ++ [⟨some d, (.sl N 0 m'), [(N, .row 0 e size els')], (N :: idsA (evA n T x))⟩]) (pu T d (.sl N 0 m')) heap') : RG P ops n F (o :: rest) acc T heap := by
  exact RG.cons hd.symm (fun T' h' hT hH hlen_ => A_append_nl (by rw [wanted_eqA hT]; exact hw) hd s x t ho ht hI hzs (by rw [ev_eq hT (by simp [ho, Op.operands, Call.operands])]; exact hs) (Rd.agree (fun i hi => hH i (by rw [ev_eq hT (by simp [ho, Op.operands, Call.operands])] at hi; simp [hi])) (by rw [ev_eq hT (by simp [ho, Op.operands, Call.operands])]; exact hx)) b1 b2 he (.fill (at_hole (by rw [hH N (by simp)]; exact hat)) (setsAt_one (by rw [hH N (by simp)]; exact hat))) hm' (AL.nil ⟨rfl, rfl, rfl⟩)) rfl (by first | rfl | exact hh) k
theorem R_build {F : List Dl → (Nat → AV) → List Ob → Prop} {acc : List Dl} (hw : wantedA n T ops o = true) (hd : o.dst = some d) (t : TypeId) (parts : Array (Nat × Operand)) (ho : o.op = .build t parts) {fs : Array Field} (hu : P.underlying t = some (.struct fs)) {z : Value} {size bytes : Nat} (hI : (P.info? t).map (fun i => (i.zero, i.size, i.bytes)) = some (some z, size, bytes)) (places : List (Nat × Nat)) (hp : fs.toList.map (fun f => (f.offset, (P.info? f.type).map (·.size))) = places.map (fun x => (x.1, some x.2))) {zs : List AV} (hz : (ofConst z).flat = some zs) {qs : List (Nat × List AV)} (hq : Parts n T parts.toList qs) {cs : List AV} (hf : fillA places zs qs = some cs) (k : RG P ops n F rest (acc ++ [⟨some d, (.agg cs), [], []⟩]) (pu T d (.agg cs)) heap) : RG P ops n F (o :: rest) acc T heap := by
  exact RG.cons hd.symm (fun T' h' hT hH hlen_ => A_build (by rw [wanted_eqA hT]; exact hw) hd t parts ho hu hI places hp hz (Parts.agree hT (fun y hy => by rw [ho]; simpa [Op.operands] using hy) hq) hf (AL.nil ⟨rfl, rfl, rfl⟩)) rfl (by first | rfl | exact hh) k
theorem R_get {F : List Dl → (Nat → AV) → List Ob → Prop} {acc : List Dl} (hw : wantedA n T ops o = true) (hd : o.dst = some d) (t : TypeId) (x : Operand) (f : Nat) (ho : o.op = .field t x f) {fs : Array Field} (hu : P.underlying t = some (.struct fs)) {fd : Field} (hf : fs[f]? = some fd) {ds : TypeDesc} (ha : (match ds with | .struct _ | .array _ _ => true | _ => false) = false) (hds : P.underlying fd.type = some ds) {m : Nat} (hm : fd.offset = m) {l : List AV} (hx : evA n T x = .agg l) {u : AV} (hc : l[m]? = some u) (k : RG P ops n F rest (acc ++ [⟨some d, u, [], []⟩]) (pu T d u) heap) : RG P ops n F (o :: rest) acc T heap := by
  exact RG.cons hd.symm (fun T' h' hT hH hlen_ => A_get (by rw [wanted_eqA hT]; exact hw) hd t x f ho hu hf ha hds hm (by rw [ev_eq hT (by simp [ho, Op.operands, Call.operands])]; exact hx) hc (AL.nil ⟨rfl, rfl, rfl⟩)) rfl (by first | rfl | exact hh) k
theorem R_get_agg {F : List Dl → (Nat → AV) → List Ob → Prop} {acc : List Dl} (hw : wantedA n T ops o = true) (hd : o.dst = some d) (t : TypeId) (x : Operand) (f : Nat) (ho : o.op = .field t x f) {fs : Array Field} (hu : P.underlying t = some (.struct fs)) {fd : Field} (hf : fs[f]? = some fd) {ds : TypeDesc} (ha : (match ds with | .struct _ | .array _ _ => true | _ => false) = true) (hds : P.underlying fd.type = some ds) {z : Option Value} {size bytes : Nat} (hI : (P.info? fd.type).map (fun i => (i.zero, i.size, i.bytes)) = some (z, size, bytes)) {m : Nat} (hm : fd.offset = m) {l : List AV} (hx : evA n T x = .agg l) {us' : List AV} (hc : (l.drop m).take size = us') (k : RG P ops n F rest (acc ++ [⟨some d, (.agg us'), [], []⟩]) (pu T d (.agg us')) heap) : RG P ops n F (o :: rest) acc T heap := by
  exact RG.cons hd.symm (fun T' h' hT hH hlen_ => A_get_agg (by rw [wanted_eqA hT]; exact hw) hd t x f ho hu hf ha hds hI hm (by rw [ev_eq hT (by simp [ho, Op.operands, Call.operands])]; exact hx) hc (AL.nil ⟨rfl, rfl, rfl⟩)) rfl (by first | rfl | exact hh) k
theorem R_extract {F : List Dl → (Nat → AV) → List Ob → Prop} {acc : List Dl} (hw : wantedA n T ops o = true) (hd : o.dst = some d) (x : Operand) (f : Nat) (ho : o.op = .extract x f) {l : List AV} (hx : evA n T x = .tup l) {u : AV} (hc : l[f]? = some u) (k : RG P ops n F rest (acc ++ [⟨some d, u, [], []⟩]) (pu T d u) heap) : RG P ops n F (o :: rest) acc T heap := by
  exact RG.cons hd.symm (fun T' h' hT hH hlen_ => A_extract (by rw [wanted_eqA hT]; exact hw) hd x f ho (by rw [ev_eq hT (by simp [ho, Op.operands, Call.operands])]; exact hx) hc (AL.nil ⟨rfl, rfl, rfl⟩)) rfl (by first | rfl | exact hh) k
theorem R_cut {F : List Dl → (Nat → AV) → List Ob → Prop} {acc : List Dl} (hw : wantedA n T ops o = true) (hd : o.dst = some d) (t : TypeId) (x : Operand) (lo hi : Option Operand) (ho : o.op = .slice t x lo hi none) {e : TypeId} (ht : P.underlying t = some (.slice e)) {z : Option Value} {size bytes : Nat} (hI : (P.info? e).map (fun i => (i.zero, i.size, i.bytes)) = some (z, size, bytes)) {els : List (List Tr)} (hx : evA n T x = .ln els) (hs : ∀ cs ∈ els, cs.length = size) {m l h : Nat} (hm : els.length = m) (hl : Bd n T lo 0 l) (hh : Bd n T hi m h) (h1 : l ≤ h) (h2 : h ≤ m) {els' : List (List Tr)} (he : (els.drop l).take (h - l) = els') (k : RG P ops n F rest (acc ++ [⟨some d, (.ln els'), [], []⟩]) (pu T d (.ln els')) heap) : RG P ops n F (o :: rest) acc T heap := by
  exact RG.cons hd.symm (fun T' h' hT hH hlen_ => A_cut (by rw [wanted_eqA hT]; exact hw) hd t x lo hi ho ht hI (by rw [ev_eq hT (by simp [ho, Op.operands, Call.operands])]; exact hx) hs hm (Bd.agree hT (fun y hy => by rw [ho]; simp [Op.operands, hy]) hl) (Bd.agree hT (fun y hy => by rw [ho]; simp [Op.operands, hy]) hh) h1 h2 he (AL.nil ⟨rfl, rfl, rfl⟩)) rfl (by first | rfl | exact hh) k
theorem R_cut_t {F : List Dl → (Nat → AV) → List Ob → Prop} {acc : List Dl} (hw : wantedA n T ops o = true) (hd : o.dst = some d) (t : TypeId) (x : Operand) (lo hi : Option Operand) (ho : o.op = .slice t x lo hi none) {e : TypeId} (ht : P.underlying t = some (.slice e)) {z : Option Value} {size bytes : Nat} (hI : (P.info? e).map (fun i => (i.zero, i.size, i.bytes)) = some (z, size, bytes)) {els : List (List Tr)} (hx : evA n T x = .t (.lst els)) (hs : ∀ cs ∈ els, cs.length = size) {m l h : Nat} (hm : els.length = m) (hl : Bd n T lo 0 l) (hh : Bd n T hi m h) (h1 : l ≤ h) (h2 : h ≤ m) {els' : List (List Tr)} (he : (els.drop l).take (h - l) = els') (k : RG P ops n F rest (acc ++ [⟨some d, (.t (.lst els')), [], []⟩]) (pu T d (.t (.lst els'))) heap) : RG P ops n F (o :: rest) acc T heap := by
  exact RG.cons hd.symm (fun T' h' hT hH hlen_ => A_cut_t (by rw [wanted_eqA hT]; exact hw) hd t x lo hi ho ht hI (by rw [ev_eq hT (by simp [ho, Op.operands, Call.operands])]; exact hx) hs hm (Bd.agree hT (fun y hy => by rw [ho]; simp [Op.operands, hy]) hl) (Bd.agree hT (fun y hy => by rw [ho]; simp [Op.operands, hy]) hh) h1 h2 he (AL.nil ⟨rfl, rfl, rfl⟩)) rfl (by first | rfl | exact hh) k
theorem R_cut_hi {F : List Dl → (Nat → AV) → List Ob → Prop} {acc : List Dl} (hw : wantedA n T ops o = true) (hd : o.dst = some d) (t : TypeId) (x : Operand) (hi : Option Operand) (ho : o.op = .slice t x none hi none) {e : TypeId} (ht : P.underlying t = some (.slice e)) {z : Option Value} {size bytes : Nat} (hI : (P.info? e).map (fun i => (i.zero, i.size, i.bytes)) = some (z, size, bytes)) {i k' m h : Nat} (hx : evA n T x = .sl i k' m) (hh : Bd n T hi m h) (h2 : h ≤ m) (k : RG P ops n F rest (acc ++ [⟨some d, (.sl i k' h), [], []⟩]) (pu T d (.sl i k' h)) heap) : RG P ops n F (o :: rest) acc T heap := by
  exact RG.cons hd.symm (fun T' h' hT hH hlen_ => A_cut_hi (by rw [wanted_eqA hT]; exact hw) hd t x hi ho ht hI (by rw [ev_eq hT (by simp [ho, Op.operands, Call.operands])]; exact hx) (Bd.agree hT (fun y hy => by rw [ho]; simp [Op.operands, hy]) hh) h2 (AL.nil ⟨rfl, rfl, rfl⟩)) rfl (by first | rfl | exact hh) k
theorem R_cut_sub {F : List Dl → (Nat → AV) → List Ob → Prop} {acc : List Dl} (hw : wantedA n T ops o = true) (hd : o.dst = some d) (t : TypeId) (x : Operand) (lo hi : Option Operand) (ho : o.op = .slice t x lo hi none) {e : TypeId} (ht : P.underlying t = some (.slice e)) {z : Option Value} {size bytes : Nat} (hI : (P.info? e).map (fun i => (i.zero, i.size, i.bytes)) = some (z, size, bytes)) {i k' m l h : Nat} (hx : evA n T x = .sl i k' m) {E : TypeId} {els : List (List Tr)} (hi' : heap[i]? = some (.row k' E size els)) (hl : Bd n T lo 0 l) (hh : Bd n T hi m h) (h1 : l ≤ h) (h2 : h ≤ m) {q : Nat} (hq : h - l = q) (k : RG P ops n F rest (acc ++ [⟨some d, (.sub i k' l q), [], [i]⟩]) (pu T d (.sub i k' l q)) heap) : RG P ops n F (o :: rest) acc T heap := by
  exact RG.cons hd.symm (fun T' h' hT hH hlen_ => A_cut_sub (by rw [wanted_eqA hT]; exact hw) hd t x lo hi ho ht hI (by rw [ev_eq hT (by simp [ho, Op.operands, Call.operands])]; exact hx) (by rw [hH i (by simp)]; exact hi') (Bd.agree hT (fun y hy => by rw [ho]; simp [Op.operands, hy]) hl) (Bd.agree hT (fun y hy => by rw [ho]; simp [Op.operands, hy]) hh) h1 h2 hq (AL.nil ⟨rfl, rfl, rfl⟩)) rfl (by first | rfl | exact hh) k
theorem R_add {F : List Dl → (Nat → AV) → List Ob → Prop} {acc : List Dl} (hw : wantedA n T ops o = true) (hd : o.dst = some d) (xt yt : TypeId) (x y : Operand) (ho : o.op = .binOp .add xt x y yt) {k : IntKind} {a b : Int} (hx : evA n T x = .t (.v (.int k a))) (hy : evA n T y = .t (.v (.int k b))) {c : Int} (hc : k.wrap (a + b) = c) (k' : RG P ops n F rest (acc ++ [⟨some d, (.t (.v (.int k c))), [], []⟩]) (pu T d (.t (.v (.int k c)))) heap) : RG P ops n F (o :: rest) acc T heap := by
  exact RG.cons hd.symm (fun T' h' hT hH hlen_ => A_add (by rw [wanted_eqA hT]; exact hw) hd xt yt x y ho (by rw [ev_eq hT (by simp [ho, Op.operands, Call.operands])]; exact hx) (by rw [ev_eq hT (by simp [ho, Op.operands, Call.operands])]; exact hy) hc (AL.nil ⟨rfl, rfl, rfl⟩)) rfl (by first | rfl | exact hh) k'
theorem R_sub {F : List Dl → (Nat → AV) → List Ob → Prop} {acc : List Dl} (hw : wantedA n T ops o = true) (hd : o.dst = some d) (xt yt : TypeId) (x y : Operand) (ho : o.op = .binOp .sub xt x y yt) {k : IntKind} {a b : Int} (hx : evA n T x = .t (.v (.int k a))) (hy : evA n T y = .t (.v (.int k b))) {c : Int} (hc : k.wrap (a - b) = c) (k' : RG P ops n F rest (acc ++ [⟨some d, (.t (.v (.int k c))), [], []⟩]) (pu T d (.t (.v (.int k c)))) heap) : RG P ops n F (o :: rest) acc T heap := by
  exact RG.cons hd.symm (fun T' h' hT hH hlen_ => A_sub (by rw [wanted_eqA hT]; exact hw) hd xt yt x y ho (by rw [ev_eq hT (by simp [ho, Op.operands, Call.operands])]; exact hx) (by rw [ev_eq hT (by simp [ho, Op.operands, Call.operands])]; exact hy) hc (AL.nil ⟨rfl, rfl, rfl⟩)) rfl (by first | rfl | exact hh) k'
theorem R_mul {F : List Dl → (Nat → AV) → List Ob → Prop} {acc : List Dl} (hw : wantedA n T ops o = true) (hd : o.dst = some d) (xt yt : TypeId) (x y : Operand) (ho : o.op = .binOp .mul xt x y yt) {k : IntKind} {a b : Int} (hx : evA n T x = .t (.v (.int k a))) (hy : evA n T y = .t (.v (.int k b))) {c : Int} (hc : k.wrap (a * b) = c) (k' : RG P ops n F rest (acc ++ [⟨some d, (.t (.v (.int k c))), [], []⟩]) (pu T d (.t (.v (.int k c)))) heap) : RG P ops n F (o :: rest) acc T heap := by
  exact RG.cons hd.symm (fun T' h' hT hH hlen_ => A_mul (by rw [wanted_eqA hT]; exact hw) hd xt yt x y ho (by rw [ev_eq hT (by simp [ho, Op.operands, Call.operands])]; exact hx) (by rw [ev_eq hT (by simp [ho, Op.operands, Call.operands])]; exact hy) hc (AL.nil ⟨rfl, rfl, rfl⟩)) rfl (by first | rfl | exact hh) k'
theorem R_quo {F : List Dl → (Nat → AV) → List Ob → Prop} {acc : List Dl} (hw : wantedA n T ops o = true) (hd : o.dst = some d) (xt yt : TypeId) (x y : Operand) (ho : o.op = .binOp .quo xt x y yt) {k : IntKind} {a b : Int} (hx : evA n T x = .t (.v (.int k a))) (hy : evA n T y = .t (.v (.int k b))) (hb : b ≠ 0) {c : Int} (hc : k.wrap (a.tdiv b) = c) (k' : RG P ops n F rest (acc ++ [⟨some d, (.t (.v (.int k c))), [], []⟩]) (pu T d (.t (.v (.int k c)))) heap) : RG P ops n F (o :: rest) acc T heap := by
  exact RG.cons hd.symm (fun T' h' hT hH hlen_ => A_quo (by rw [wanted_eqA hT]; exact hw) hd xt yt x y ho (by rw [ev_eq hT (by simp [ho, Op.operands, Call.operands])]; exact hx) (by rw [ev_eq hT (by simp [ho, Op.operands, Call.operands])]; exact hy) hb hc (AL.nil ⟨rfl, rfl, rfl⟩)) rfl (by first | rfl | exact hh) k'
theorem R_rem {F : List Dl → (Nat → AV) → List Ob → Prop} {acc : List Dl} (hw : wantedA n T ops o = true) (hd : o.dst = some d) (xt yt : TypeId) (x y : Operand) (ho : o.op = .binOp .rem xt x y yt) {k : IntKind} {a b : Int} (hx : evA n T x = .t (.v (.int k a))) (hy : evA n T y = .t (.v (.int k b))) (hb : b ≠ 0) {c : Int} (hc : a.tmod b = c) (k' : RG P ops n F rest (acc ++ [⟨some d, (.t (.v (.int k c))), [], []⟩]) (pu T d (.t (.v (.int k c)))) heap) : RG P ops n F (o :: rest) acc T heap := by
  exact RG.cons hd.symm (fun T' h' hT hH hlen_ => A_rem (by rw [wanted_eqA hT]; exact hw) hd xt yt x y ho (by rw [ev_eq hT (by simp [ho, Op.operands, Call.operands])]; exact hx) (by rw [ev_eq hT (by simp [ho, Op.operands, Call.operands])]; exact hy) hb hc (AL.nil ⟨rfl, rfl, rfl⟩)) rfl (by first | rfl | exact hh) k'
theorem R_cmp {F : List Dl → (Nat → AV) → List Ob → Prop} {acc : List Dl} (hw : wantedA n T ops o = true) (hd : o.dst = some d) (op : BinOp) (xt yt : TypeId) (x y : Operand) (ho : o.op = .binOp op xt x y yt) {k : IntKind} {a b : Int} (hx : evA n T x = .t (.v (.int k a))) (hy : evA n T y = .t (.v (.int k b))) {c : Bool} (hc : cmpR op a b = some c) (k' : RG P ops n F rest (acc ++ [⟨some d, (.t (.v (.bool c))), [], []⟩]) (pu T d (.t (.v (.bool c)))) heap) : RG P ops n F (o :: rest) acc T heap := by
  exact RG.cons hd.symm (fun T' h' hT hH hlen_ => A_cmp (by rw [wanted_eqA hT]; exact hw) hd op xt yt x y ho (by rw [ev_eq hT (by simp [ho, Op.operands, Call.operands])]; exact hx) (by rw [ev_eq hT (by simp [ho, Op.operands, Call.operands])]; exact hy) hc (AL.nil ⟨rfl, rfl, rfl⟩)) rfl (by first | rfl | exact hh) k'
theorem R_beq {F : List Dl → (Nat → AV) → List Ob → Prop} {acc : List Dl} (hw : wantedA n T ops o = true) (hd : o.dst = some d) (xt yt : TypeId) (x y : Operand) (ho : o.op = .binOp .eql xt x y yt) (ht : P.underlying xt = some .bool) {a b : Bool} (hx : evA n T x = .t (.v (.bool a))) (hy : evA n T y = .t (.v (.bool b))) (k' : RG P ops n F rest (acc ++ [⟨some d, (.t (.v (.bool (a == b)))), [], []⟩]) (pu T d (.t (.v (.bool (a == b))))) heap) : RG P ops n F (o :: rest) acc T heap := by
  exact RG.cons hd.symm (fun T' h' hT hH hlen_ => A_beq (by rw [wanted_eqA hT]; exact hw) hd xt yt x y ho ht (by rw [ev_eq hT (by simp [ho, Op.operands, Call.operands])]; exact hx) (by rw [ev_eq hT (by simp [ho, Op.operands, Call.operands])]; exact hy) (AL.nil ⟨rfl, rfl, rfl⟩)) rfl (by first | rfl | exact hh) k'
theorem R_bne {F : List Dl → (Nat → AV) → List Ob → Prop} {acc : List Dl} (hw : wantedA n T ops o = true) (hd : o.dst = some d) (xt yt : TypeId) (x y : Operand) (ho : o.op = .binOp .neq xt x y yt) (ht : P.underlying xt = some .bool) {a b : Bool} (hx : evA n T x = .t (.v (.bool a))) (hy : evA n T y = .t (.v (.bool b))) (k' : RG P ops n F rest (acc ++ [⟨some d, (.t (.v (.bool (!(a == b))))), [], []⟩]) (pu T d (.t (.v (.bool (!(a == b)))))) heap) : RG P ops n F (o :: rest) acc T heap := by
  exact RG.cons hd.symm (fun T' h' hT hH hlen_ => A_bne (by rw [wanted_eqA hT]; exact hw) hd xt yt x y ho ht (by rw [ev_eq hT (by simp [ho, Op.operands, Call.operands])]; exact hx) (by rw [ev_eq hT (by simp [ho, Op.operands, Call.operands])]; exact hy) (AL.nil ⟨rfl, rfl, rfl⟩)) rfl (by first | rfl | exact hh) k'
theorem R_not {F : List Dl → (Nat → AV) → List Ob → Prop} {acc : List Dl} (hw : wantedA n T ops o = true) (hd : o.dst = some d) (xt : TypeId) (x : Operand) (ho : o.op = .unOp .not xt x) {a : Bool} (hx : evA n T x = .t (.v (.bool a))) (k' : RG P ops n F rest (acc ++ [⟨some d, (.t (.v (.bool (!a)))), [], []⟩]) (pu T d (.t (.v (.bool (!a))))) heap) : RG P ops n F (o :: rest) acc T heap := by
  exact RG.cons hd.symm (fun T' h' hT hH hlen_ => A_not (by rw [wanted_eqA hT]; exact hw) hd xt x ho (by rw [ev_eq hT (by simp [ho, Op.operands, Call.operands])]; exact hx) (AL.nil ⟨rfl, rfl, rfl⟩)) rfl (by first | rfl | exact hh) k'
theorem R_neg {F : List Dl → (Nat → AV) → List Ob → Prop} {acc : List Dl} (hw : wantedA n T ops o = true) (hd : o.dst = some d) (xt : TypeId) (x : Operand) (ho : o.op = .unOp .neg xt x) {k : IntKind} {a : Int} (hx : evA n T x = .t (.v (.int k a))) {c : Int} (hc : k.wrap (0 - a) = c) (k' : RG P ops n F rest (acc ++ [⟨some d, (.t (.v (.int k c))), [], []⟩]) (pu T d (.t (.v (.int k c)))) heap) : RG P ops n F (o :: rest) acc T heap := by
  exact RG.cons hd.symm (fun T' h' hT hH hlen_ => A_neg (by rw [wanted_eqA hT]; exact hw) hd xt x ho (by rw [ev_eq hT (by simp [ho, Op.operands, Call.operands])]; exact hx) hc (AL.nil ⟨rfl, rfl, rfl⟩)) rfl (by first | rfl | exact hh) k'
theorem R_conv {F : List Dl → (Nat → AV) → List Ob → Prop} {acc : List Dl} (hw : wantedA n T ops o = true) (hd : o.dst = some d) (s t : TypeId) (x : Operand) (ho : o.op = .convert s t x) {ds : TypeDesc} (hs : P.underlying s = some ds) {kd : IntKind} (ht : P.underlying t = some (.int kd)) {k : IntKind} {a : Int} (hx : evA n T x = .t (.v (.int k a))) {c : Int} (hc : kd.wrap a = c) (k' : RG P ops n F rest (acc ++ [⟨some d, (.t (.v (.int kd c))), [], []⟩]) (pu T d (.t (.v (.int kd c)))) heap) : RG P ops n F (o :: rest) acc T heap := by
  exact RG.cons hd.symm (fun T' h' hT hH hlen_ => A_conv (by rw [wanted_eqA hT]; exact hw) hd s t x ho hs ht (by rw [ev_eq hT (by simp [ho, Op.operands, Call.operands])]; exact hx) hc (AL.nil ⟨rfl, rfl, rfl⟩)) rfl (by first | rfl | exact hh) k'
theorem R_max {F : List Dl → (Nat → AV) → List Ob → Prop} {acc : List Dl} (hw : wantedA n T ops o = true) (hd : o.dst = some d) (tys : Array TypeId) (x y : Operand) (ho : o.op = .call { callee := .builtin .max, args := #[x, y], argTypes := tys }) {k k2 : IntKind} {a b : Int} (hx : evA n T x = .t (.v (.int k a))) (hy : evA n T y = .t (.v (.int k2 b))) (k' : RG P ops n F rest (acc ++ [⟨some d, (.t (.v (.int k (max a b)))), [], []⟩]) (pu T d (.t (.v (.int k (max a b))))) heap) : RG P ops n F (o :: rest) acc T heap := by
  exact RG.cons hd.symm (fun T' h' hT hH hlen_ => A_max (by rw [wanted_eqA hT]; exact hw) hd tys x y ho (by rw [ev_eq hT (by simp [ho, Op.operands, Call.operands])]; exact hx) (by rw [ev_eq hT (by simp [ho, Op.operands, Call.operands])]; exact hy) (AL.nil ⟨rfl, rfl, rfl⟩)) rfl (by first | rfl | exact hh) k'
theorem R_min {F : List Dl → (Nat → AV) → List Ob → Prop} {acc : List Dl} (hw : wantedA n T ops o = true) (hd : o.dst = some d) (tys : Array TypeId) (x y : Operand) (ho : o.op = .call { callee := .builtin .min, args := #[x, y], argTypes := tys }) {k k2 : IntKind} {a b : Int} (hx : evA n T x = .t (.v (.int k a))) (hy : evA n T y = .t (.v (.int k2 b))) (k' : RG P ops n F rest (acc ++ [⟨some d, (.t (.v (.int k (min a b)))), [], []⟩]) (pu T d (.t (.v (.int k (min a b))))) heap) : RG P ops n F (o :: rest) acc T heap := by
  exact RG.cons hd.symm (fun T' h' hT hH hlen_ => A_min (by rw [wanted_eqA hT]; exact hw) hd tys x y ho (by rw [ev_eq hT (by simp [ho, Op.operands, Call.operands])]; exact hx) (by rw [ev_eq hT (by simp [ho, Op.operands, Call.operands])]; exact hy) (AL.nil ⟨rfl, rfl, rfl⟩)) rfl (by first | rfl | exact hh) k'
theorem R_lit0 {F : List Dl → (Nat → AV) → List Ob → Prop} {acc : List Dl} (hw : wantedA n T ops o = true) (hd : o.dst = some d) (t : TypeId) (ho : o.op = .buildSlice t 0 #[]) {e : TypeId} (ht : P.underlying t = some (.slice e)) {z : Option Value} {size bytes : Nat} (hI : (P.info? e).map (fun i => (i.zero, i.size, i.bytes)) = some (z, size, bytes)) (k : RG P ops n F rest (acc ++ [⟨some d, .nl, [], []⟩]) (pu T d .nl) heap) : RG P ops n F (o :: rest) acc T heap := by
  exact RG.cons hd.symm (fun T' h' hT hH hlen_ => A_lit0 (by rw [wanted_eqA hT]; exact hw) hd t ho ht hI (AL.nil ⟨rfl, rfl, rfl⟩)) rfl (by first | rfl | exact hh) k
theorem R_lit {F : List Dl → (Nat → AV) → List Ob → Prop} {acc : List Dl} (hw : wantedA n T ops o = true) (hd : o.dst = some d) (t : TypeId) (len : Nat) (parts : Array (Nat × Operand)) (ho : o.op = .buildSlice t len parts) {e : TypeId} (ht : P.underlying t = some (.slice e)) {z : Value} {size bytes : Nat} (hI : (P.info? e).map (fun i => (i.zero, i.size, i.bytes)) = some (some z, size, bytes)) {qs : List (Nat × List AV)} (hq : Parts n T parts.toList qs) {els : List (List Tr)} (he : litA size 0 qs = some els) {els' : List (List Tr)} (he' : els = els') (hlen : els'.length = len) (h0 : len * size ≠ 0) (hm : len * size ≤ 16777216) (hn : len ≤ 16777216) {heap' : List Ob} {N : Nat} (hat : heap[N]? = some .hole) (hh : heap.set N (.row 0 e size els') = heap') (k : RG P ops n F rest (acc ++ [⟨some d, (.sl N 0 len), [(N, .row 0 e size els')], [N]⟩]) (pu T d (.sl N 0 len)) heap') : RG P ops n F (o :: rest) acc T heap := by
  exact RG.cons hd.symm (fun T' h' hT hH hlen_ => A_lit (by rw [wanted_eqA hT]; exact hw) hd t len parts ho ht hI (Parts.agree hT (fun y hy => by rw [ho]; simpa [Op.operands] using hy) hq) he he' hlen h0 hm hn (.fill (at_hole (by rw [hH N (by simp)]; exact hat)) (setsAt_one (by rw [hH N (by simp)]; exact hat))) (AL.nil ⟨rfl, rfl, rfl⟩)) rfl (by first | rfl | exact hh) k
theorem R_fn {F : List Dl → (Nat → AV) → List Ob → Prop} {acc : List Dl} (hw : wantedA n T ops o = true) (hd : o.dst = some d) (f : Fn) (first cap : Array Operand) (ho : o.op = .makeFunc f first cap) {us vs : List AV} (hf : Args n T first.toList us) (hc : Args n T cap.toList vs) (k : RG P ops n F rest (acc ++ [⟨some d, (.fn f us vs), [], []⟩]) (pu T d (.fn f us vs)) heap) : RG P ops n F (o :: rest) acc T heap := by
  exact RG.cons hd.symm (fun T' h' hT hH hlen_ => A_fn (by rw [wanted_eqA hT]; exact hw) hd f first cap ho (Args.agree hT (fun y hy => by rw [ho]; simp [Op.operands]; simp at hy; simp [hy]) hf) (Args.agree hT (fun y hy => by rw [ho]; simp [Op.operands]; simp at hy; simp [hy]) hc) (AL.nil ⟨rfl, rfl, rfl⟩)) rfl (by first | rfl | exact hh) k
theorem R_pick {F : List Dl → (Nat → AV) → List Ob → Prop} {acc : List Dl} (hw : wantedA n T ops o = true) (hd : o.dst = some d) (c x y : Operand) (ho : o.op = .pick c x y) {b : Bool} (hc : evA n T c = .t (.v (.bool b))) {u v : AV} (hx : evA n T x = u) (hy : evA n T y = v) {r : AV} (hr : (bif b then u else v) = r) (k : RG P ops n F rest (acc ++ [⟨some d, r, [], []⟩]) (pu T d r) heap) : RG P ops n F (o :: rest) acc T heap := by
  exact RG.cons hd.symm (fun T' h' hT hH hlen_ => A_pick (by rw [wanted_eqA hT]; exact hw) hd c x y ho (by rw [ev_eq hT (by simp [ho, Op.operands, Call.operands])]; exact hc) (by rw [ev_eq hT (by simp [ho, Op.operands, Call.operands])]; exact hx) (by rw [ev_eq hT (by simp [ho, Op.operands, Call.operands])]; exact hy) hr (AL.nil ⟨rfl, rfl, rfl⟩)) rfl (by first | rfl | exact hh) k
end
end Go.Proofs.Ytmljglphegeilaa

namespace Go.Proofs.Ytmljglphegeilaa
set_option linter.unusedVariables false
set_option linter.unusedSimpArgs false
set_option linter.unnecessarySimpa false
open Go.RowKit
section
variable {P : Program} {Q : QS} {K : (Nat → AV) → List Ob → Prop} {n : Fr} {T : Nat → AV} {heap : List Ob} {id i : Nat} {fn : Func} {R : AV → List Ob → Prop}
theorem thenQ_n (h : K T heap) : thenQ K Q .normal T heap := h
theorem thenQ_r (h : Q .ret T heap) : thenQ K Q .ret T heap := h
theorem thenQ_e (h : Q (.exit i) T heap) : thenQ K Q (.exit i) T heap := h
theorem blockQ_n (h : Q .normal T heap) : blockQ id Q .normal T heap := h
theorem blockQ_r (h : Q .ret T heap) : blockQ id Q .ret T heap := h
theorem blockQ_e0 (h : Q .normal T heap) : blockQ id Q (.exit id) T heap := by
  show (bif Nat.beq id id then Q .normal T heap else _)
  rw [Nat.beq_refl]; exact h
theorem blockQ_e1 (hb : Nat.beq i id = false) (h : Q (.exit i) T heap) : blockQ id Q (.exit i) T heap := by
  show (bif Nat.beq i id then _ else Q (.exit i) T heap)
  rw [hb]; exact h
theorem retQ_r (h : Fin P fn R n T heap) : retQ P fn R n .ret T heap := h
theorem retQ_n (h : Fin P fn R n T heap) : retQ P fn R n .normal T heap := h
theorem AW.at_region (id : Nat) {l : List Oper} (h : AL P l.toArray Q l n T heap) : AW P (.region id l.toArray false) Q n T heap := AW.region h
theorem AW.at_draw (id : Nat) {l : List Oper} (hm : P.follows .mixedOrders = true) (m : Nat) (A : List (List Nat)) {h1 : List Ob} (hh : heap ++ List.replicate m .hole = h1) (hr : RG P l.toArray n (fun Ds T2 h2 => chkD l A (W_ Ds) = true ∧ Q .normal T2 h2) l [] T h1) : AW P (.region id l.toArray true) Q n T heap := by
  obtain ⟨Ds, T2, h2, h3, h4, h5⟩ := hr
  exact AW.draw hm m hh h3 A h4 h5
end
theorem map_get {α β : Type} {l : List α} {f : α → β} {k : Nat} {x : α} (h : l[k]? = some x) : (l.map f)[k]? = some (f x) := by rw [List.getElem?_map, h]; rfl
theorem each_map {α : Type} {l : List α} {f : α → List Tr} {s : Nat} (h : ∀ x, (f x).length = s) : ∀ cs ∈ l.map f, cs.length = s := fun cs hc => by
  obtain ⟨x, _, rfl⟩ := List.mem_map.1 hc; exact h x
theorem map_set {α : Type} {l : List α} {f : α → List Tr} {i : Nat} {x : α} : (l.map f).set i (f x) = (l.set i x).map f := by rw [List.map_set]
theorem app_map {α : Type} {l l' : List α} {f : α → List Tr} {m : Nat} (h : m = l.length) : (l.map f).take m ++ l'.map f = (l ++ l').map f := by
  subst h; rw [List.map_append, List.take_of_length_le (by simp)]
theorem app_one {α : Type} {l : List α} {f : α → List Tr} {m : Nat} {x : α} (h : m = l.length) : (l.map f).take m ++ [f x] = (l ++ [x]).map f := by
  subst h; rw [List.map_append, List.take_of_length_le (by simp)]; rfl
theorem rep_map {α : Type} {f : α → List Tr} {m : Nat} {x : α} : List.replicate m (f x) = (List.replicate m x).map f := by rw [List.map_replicate]
def Cd (P : Program) (f : FuncId) (args : List AV) (r : AV) (L : List Ob) : Prop := C P f args [] (fun r' L' => r' = r ∧ L' = L)
theorem Cd.enter {P : Program} {f : FuncId} {fn : Func} {c : Code} (hf : P.funcs[f]? = some fn) (hb : fn.body = some c) {args : List AV} {r : AV} {L : List Ob} {N : Nat} (hN : max args.length fn.ntmps = N) (h : AW P c (retQ P fn (fun r' L' => r' = r ∧ L' = L) ⟨N, 0⟩) ⟨N, 0⟩ (argT args) []) : Cd P f args r L :=
  C.enter hf hb hN h
theorem Cd.enter' {P : Program} {f : FuncId} {fn : Func} {c : Code} (hf : P.funcs[f]? = some fn) (hb : fn.body = some c) {args : List AV} {r : AV} {L : List Ob} {N : Nat} (hn : fn.ntmps = N) (hle : Nat.ble args.length N = true) (h : AW P c (retQ P fn (fun r' L' => r' = r ∧ L' = L) ⟨N, 0⟩) ⟨N, 0⟩ (argT args) []) : Cd P f args r L :=
  C.enter hf hb (by rw [hn]; exact Nat.max_eq_right (Nat.le_of_ble_eq_true hle)) h
theorem C.enter' {P : Program} {f : FuncId} {fn : Func} {c : Code} (hf : P.funcs[f]? = some fn) (hb : fn.body = some c) {args : List AV} {H : List Ob} {R : AV → List Ob → Prop} {N : Nat} (hn : fn.ntmps = N) (hle : Nat.ble args.length N = true) {M : Nat} (hM : H.length = M) (h : AW P c (retQ P fn R ⟨N, M⟩) ⟨N, M⟩ (argT args) H) : C P f args H R := by
  subst hM
  exact C.enter hf hb (by rw [hn]; exact Nat.max_eq_right (Nat.le_of_ble_eq_true hle)) h
theorem take_drop_map {α : Type} {f : α → List Tr} {l : List α} {off m : Nat} (h : l.length ≤ off + m) : ((l.map f).drop off).take m = (l.drop off).map f := by
  rw [← List.map_drop, List.take_of_length_le (by simp; omega)]
theorem take_drop_map' {α : Type} {f : α → List Tr} {l : List α} {off m : Nat} : ((l.map f).drop off).take m = ((l.drop off).take m).map f := by
  rw [← List.map_drop, ← List.map_take]
theorem Pass.subE {heap : List Ob} {sel : List Nat} {i k off m : Nat} {E : TypeId} {s : Nat} {els els' : List (List Tr)} (hi : heap[i]? = some (.row k E s els)) (hn : sel.contains i = false) (he : (els.drop off).take m = els') (hm : off + m ≤ els.length) : Pass heap sel (.sub i k off m) (.ln els') := by
  subst he
  exact .sub hi hn hm
theorem Pass.ownE {heap : List Ob} {sel : List Nat} {i k m : Nat} {E : TypeId} {s : Nat} {α : Type} {f : α → List Tr} {l : List α} (hi : heap[i]? = some (.row k E s (l.map f))) (hn : sel.contains i = false) (hm : m ≤ l.length) : Pass heap sel (.sl i k m) (.ln ((l.take m).map f)) := by
  rw [List.map_take]
  exact .own hi hn (by simpa using hm)
theorem get_D {α : Type} {l : List α} {i : Nat} {x : α} (h : i < l.length) : l[i]? = some (l.getD i x) := by
  rw [List.getD_eq_getElem?_getD, List.getElem?_eq_getElem h]; rfl
theorem AW.loopP {P : Program} {Q : QS} {n : Fr} {T : Nat → AV} {heap : List Ob} {c : Code} {ι : Type} (I : ι → Prop) (S : ι → Nat → AV) (H : ι → List Ob) (m : ι → Nat) (i0 : ι) (hi : I i0) (h0 : Wk n T heap (S i0) (H i0))
    (hr : ∀ i, I i → AW P c (thenQ (fun T' h' => ∃ j, I j ∧ m j < m i ∧ Wk n T' h' (S j) (H j)) Q) n (S i) (H i)) : AW P (.loop c) Q n T heap :=
  AW.loop (ι := {i : ι // I i}) (fun i => S i.1) (fun i => H i.1) (fun i => m i.1) ⟨i0, hi⟩ h0 fun i => by
    have := hr i.1 i.2
    intro e a w hR b k cs
    obtain ⟨ex, a', w', h1, h2⟩ := this e a w hR b k cs
    refine ⟨ex, a', w', ?_, h2⟩
    obtain ⟨T', h', q1, q2⟩ := h1
    refine ⟨T', h', ?_, q2⟩
    cases ex <;> first | exact q1 | (obtain ⟨j, j1, j2, j3⟩ := q1; exact ⟨⟨j, j1⟩, j2, j3⟩)
theorem all_eq {α : Type} {a b : List α} {z : α} (hl : a.length = b.length) (h : ∀ j, j < a.length → a.getD j z = b.getD j z) : a = b := by
  apply List.ext_getElem?
  intro j
  by_cases hj : j < a.length
  · rw [get_D (x := z) hj, get_D (x := z) (by omega), h j hj]
  · rw [List.getElem?_eq_none (by omega), List.getElem?_eq_none (by omega)]
def idsF : Nat → AV → List Nat
  | 0, _ => []
  | k + 1, x => match x with
    | .sl i _ _ => [i]
    | .sub i _ _ _ => [i]
    | .ptr i _ => [i]
    | .mv i => [i]
    | .cl _ => []
    | .rp i _ _ _ => [i]
    | .fn _ a b => a.flatMap (idsF k) ++ b.flatMap (idsF k)
    | .agg l => l.flatMap (idsF k)
    | .tup l => l.flatMap (idsF k)
    | .lp l => l.flatMap (idsF k)
    | _ => []
def idsVs (l : List AV) : List Nat := l.flatMap (idsF 5)
def boxCs : Option Ob → List AV
  | some (.box _ cs) => cs
  | _ => []
def deep (heap : List Ob) : Nat → List Nat → List Nat
  | 0, l => l
  | k + 1, l => l ++ deep heap k (l.flatMap fun i => idsVs (boxCs heap[i]?))
def isHole : Option Ob → Bool
  | some .hole => true
  | _ => false
section
variable {P : Program} {ops : Array Oper} {Q : QS} {rest : List Oper} {o : Oper} {n : Fr} {T : Nat → AV} {heap : List Ob} {d : Nat}
theorem AL.split (d : Nat) {b : Bool} (hd : evA n T (.tmp d) = .t (.v (.bool b))) (ht : b = true → AL P ops Q rest n (pu T d (.t (.v (.bool true)))) heap) (hf : b = false → AL P ops Q rest n (pu T d (.t (.v (.bool false)))) heap) : AL P ops Q rest n T heap := by
  rintro e a w ⟨ρ, Z, Y, hR⟩
  have hv := hR.eval (.tmp d)
  rw [hd] at hv
  have key : ∀ (t : Nat) (v : Value), a.tmps[t]? = some v → Val (Kn heap) ρ w Z Y (pu T d (.t (.v (.bool b))) t) v := fun t v hx => by
    by_cases e : t = d
    · subst e
      have e2 : a.eval (.tmp t) = v := by simp only [Act.eval, Array.getD_eq_getD_getElem?, hx, Option.getD_some]
      rw [e2] at hv
      simp only [pu, Nat.beq_refl, cond_true]
      exact hv
    · simp only [pu, beq_ne e, cond_false]
      exact hR.at_ t v hx
  cases b with
  | true => exact ht rfl e a w ⟨ρ, Z, Y, hR.ok, hR.defers, hR.n, hR.hl, key⟩
  | false => exact hf rfl e a w ⟨ρ, Z, Y, hR.ok, hR.defers, hR.n, hR.hl, key⟩
theorem A_calld (hw : wantedA n T ops o = true) (hd : o.dst = some d) {f : FuncId} {fn : Func} (hf : P.funcs[f]? = some fn) (hn : (fn.name == "runtime.NumGoroutine") = false) (hb : fn.body.isNone = false) {args : Array Operand} {tys : Array TypeId}
    (ho : o.op = .call { callee := .value (.func f), args := args, argTypes := tys }) {xs : List AV} {r : AV} {L : List Ob} (hc : Cd P f xs r L) (hp : PassL heap [] (args.toList.map (evA n T)) xs) {N : Nat} (hN : heap.length = N) {r' : AV} (hr : upA (shiftG N) r = r') {L' : List Ob} (hL : L.map (upO (shiftG N)) = L') {heap' : List Ob} (hh : heap ++ L' = heap')
    (k : AL P ops Q rest n (pu T d r') heap') : AL P ops Q (o :: rest) n T heap := by
  subst hr hL
  refine A_call hw hd hf hn hb ho hp hc N ?_
  rintro _ _ ⟨rfl, rfl⟩
  exact ⟨heap', .push hN hh, k⟩
theorem setAll_at : ∀ (L : List Ob) (heap : List Ob) (N : Nat), N + L.length ≤ heap.length → setAll heap ((L.zipIdx N).map (fun p => (p.2, p.1))) = setsAt heap N L
  | [], heap, N, _ => by simp [setAll, setsAt]
  | o :: L, heap, N, h => by
    simp only [List.length_cons] at h
    rw [List.zipIdx_cons, List.map_cons, setAll, setAll_at L _ (N + 1) (by simp; omega)]
    unfold setsAt
    simp only [List.length_cons]
    rw [List.drop_set_of_lt (by omega), List.take_set]
    have e1 : (heap.take (N + 1)).set N o = heap.take N ++ [o] := by
      rw [List.take_succ_eq_append_getElem (by omega), List.set_append_right _ _ (by simp; omega)]
      simp [Nat.min_eq_left (show N ≤ heap.length by omega)]
    rw [e1, show N + 1 + L.length = N + (L.length + 1) by omega]
    simp
theorem R_calld (hw : wantedA n T ops o = true) (hd : o.dst = some d) {f : FuncId} {fn : Func} (hf : P.funcs[f]? = some fn) (hn : (fn.name == "runtime.NumGoroutine") = false) (hb : fn.body.isNone = false) {args : Array Operand} {tys : Array TypeId}
    (ho : o.op = .call { callee := .value (.func f), args := args, argTypes := tys }) {xs : List AV} {r : AV} {L : List Ob} (hc : Cd P f xs r L) {acc : List Nat} (ha : deep heap 3 (idsVs (args.toList.map (evA n T))) = acc) (hp : ∀ h', (∀ i, acc.contains i = true → h'[i]? = heap[i]?) → PassL h' [] (args.toList.map (evA n T)) xs)
    (N : Nat) (hN : (L.zipIdx N).all (fun p => isHole heap[p.2]?) = true) {r' : AV} (hr : upA (shiftG N) r = r') {L' : List Ob} (hL : L.map (upO (shiftG N)) = L') {heap' : List Ob} (hh : setAll heap ((L'.zipIdx N).map (fun p => (p.2, p.1))) = heap')
    {F : List Dl → (Nat → AV) → List Ob → Prop} {ac : List Dl} (k : RG P ops n F rest (ac ++ [⟨some d, r', (L'.zipIdx N).map (fun p => (p.2, p.1)), (L'.zipIdx N).map (·.2) ++ acc⟩]) (pu T d r') heap') : RG P ops n F (o :: rest) ac T heap := by
  subst hr hL
  have hlk : ∀ x ∈ args.toList, x ∈ o.op.operands.toList := fun x hx => by rw [ho]; simp only [Op.operands, Call.operands, Array.toList_append]; exact List.mem_append_right _ hx
  have hole : ∀ q, q < L.length → heap[N + q]? = some .hole := fun q hq => by
    have := List.all_eq_true.1 hN (L[q], N + q) (List.mem_of_getElem? (i := q) (by rw [List.getElem?_zipIdx, List.getElem?_eq_getElem hq]; rfl))
    simp only at this
    cases hx : heap[N + q]? with
    | none => rw [hx] at this; cases this
    | some p => rw [hx] at this; cases p <;> first | rfl | (cases this; done)
  have hlen : ∀ h' : List Ob, h'.length = heap.length → (L.map (upO (shiftG N))) = [] ∨ N + (L.map (upO (shiftG N))).length ≤ h'.length := fun h' hl => by
    by_cases h0 : L.length = 0
    · exact .inl (by rw [List.eq_nil_of_length_eq_zero h0]; rfl)
    · have := get_lt (hole (L.length - 1) (by omega))
      exact .inr (by simp; omega)
  refine RG.cons (D := ⟨some d, _, ((L.map (upO (shiftG N))).zipIdx N).map (fun p => (p.2, p.1)), ((L.map (upO (shiftG N))).zipIdx N).map (·.2) ++ acc⟩) hd.symm (fun T' h' hT hH hl => ?_) rfl hh k
  have hargs : args.toList.map (evA n T') = args.toList.map (evA n T) := List.map_congr_left fun x hx => ev_eq hT (hlk x hx)
  refine A_call (by rw [wanted_eqA hT]; exact hw) hd hf hn hb ho (by rw [hargs]; exact hp h' fun i hi => hH i (List.mem_append_right _ (by simpa using hi))) hc N ?_
  rintro r1 L1 ⟨hr1, hL1⟩
  rw [hr1, hL1]
  refine ⟨setsAt h' N (L.map (upO (shiftG N))), .fill (fun q hq => ?_) rfl, AL.nil ⟨rfl, rfl, ?_⟩⟩
  · rw [hH (N + q) (List.mem_append_left _ ?_)]
    · exact hole q (by simpa using hq)
    · refine List.mem_map.2 ⟨((L.map (upO (shiftG N)))[q], N + q), List.mem_of_getElem? (i := q) ?_, rfl⟩
      rw [List.getElem?_zipIdx, List.getElem?_eq_getElem hq]; rfl
  · show _ = setAll h' _
    rcases hlen h' hl with h0 | h0
    · rw [h0]; simp [setAll, setsAt]
    · rw [setAll_at _ _ _ h0]
end
end Go.Proofs.Ytmljglphegeilaa

namespace Go.Proofs.Ytmljglphegeilaa
set_option linter.unusedVariables false
set_option linter.unusedSimpArgs false
set_option linter.unnecessarySimpa false
open Go.RowKit
def upK (g : Nat → Option Nat) : Nat → AV → AV
  | 0, _ => .any
  | k + 1, x => match x with
    | .t x => .t x
    | .nl => .nl
    | .sl i k n => match g i with | some j => .sl j k n | none => .any
    | .sub i k off n => match g i with | some j => .sub j k off n | none => .any
    | .ptr i off => match g i with | some j => .ptr j off | none => .any
    | .mv i => match g i with | some j => .mv j | none => .any
    | .cl els => .cl els
    | .rp i k idx off => match g i with | some j => .rp j k idx off | none => .any
    | .fn f a b => .fn f (a.map (upK g k)) (b.map (upK g k))
    | .agg l => .agg (l.map (upK g k))
    | .tup l => .tup (l.map (upK g k))
    | .any => .any
    | .ln l => .ln l
    | .lp l => .lp (l.map (upK g k))
def upB (g : Nat → Option Nat) (x : AV) : AV := upK g 5 x
def upP (g : Nat → Option Nat) : Ob → Ob
  | .box t cs => .box t (cs.map (upB g))
  | .row k E s els => .row k E s els
  | .gone k => .gone k
  | .hole => .hole
  | .mp es => .mp es
  | .ra k E cs => .ra k E (cs.map (upB g))
theorem val_upK {Kn Kn' : Nat → Nat → Prop} {ρ ρ' : Rho} {w : World} {Z Y : Nat → Prop} {g : Nat → Option Nat} (hk : ∀ i k j, g i = some j → Kn i k → Kn' j k ∧ ρ' j k = ρ i k) : ∀ (q : Nat) {x : AV} {v : Value}, Val Kn ρ w Z Y x v → Val Kn' ρ' w Z Y (upK g q x) v := by
  intro q
  induction q with
  | zero => intro x v _; exact .any v
  | succ q ih =>
    have pw : ∀ {l : List AV} {us : List Value}, l.length = us.length → (∀ (j : Nat) x u, l[j]? = some x → us[j]? = some u → Val Kn ρ w Z Y x u) → (l.map (upK g q)).length = us.length ∧ ∀ (j : Nat) x u, (l.map (upK g q))[j]? = some x → us[j]? = some u → Val Kn' ρ' w Z Y x u := fun {l us} h1 h2 => by
      refine ⟨by simpa using h1, fun j x u hj hu => ?_⟩
      rw [List.getElem?_map] at hj
      cases hx : l[j]? with
      | none => rw [hx] at hj; cases hj
      | some y => rw [hx] at hj; cases hj; exact ih (h2 j y u hx hu)
    intro x v h
    cases h with
    | any v => exact .any v
    | t h => exact .t h
    | nl a => exact .nl a
    | ln hr hz hn he => exact .ln hr hz hn he
    | lp hl ho hc hv => exact .lp (by simpa using hl) ho hc (pw hl hv).2
    | @sl i k n hk' hc h0 =>
      simp only [upK]
      cases hg : g i with
      | none => exact .any _
      | some j =>
        obtain ⟨h1, h2⟩ := hk i k j hg hk'
        rw [← h2] at hc h0 ⊢
        exact .sl h1 hc h0
    | @sub i k off n a c hk' hn hm h0 ha =>
      simp only [upK]
      cases hg : g i with
      | none => exact .any _
      | some j =>
        obtain ⟨h1, h2⟩ := hk i k j hg hk'
        exact .sub h1 hn hm h0 (by rw [h2]; exact ha)
    | @ptr i off b hk' ha =>
      simp only [upK]
      cases hg : g i with
      | none => exact .any _
      | some j =>
        obtain ⟨h1, h2⟩ := hk i 0 j hg hk'
        exact .ptr h1 (by rw [h2]; exact ha)
    | @mv i b hk' ha =>
      simp only [upK]
      cases hg : g i with
      | none => exact .any _
      | some j =>
        obtain ⟨h1, h2⟩ := hk i 0 j hg hk'
        exact .mv h1 (by rw [h2]; exact ha)
    | cl hr hz hn he => exact .cl hr hz hn he
    | @rp i k idx off hk' =>
      simp only [upK]
      cases hg : g i with
      | none => exact .any _
      | some j =>
        obtain ⟨h1, h2⟩ := hk i k j hg hk'
        rw [← h2]
        exact .rp h1
    | fn h1 h2 hu hv =>
      obtain ⟨a1, a2⟩ := pw h1 hu
      obtain ⟨b1, b2⟩ := pw h2 hv
      exact .fn a1 b1 a2 b2
    | agg h1 ho hu => obtain ⟨a1, a2⟩ := pw h1 hu; exact .agg a1 ho a2
    | tup h1 hu => obtain ⟨a1, a2⟩ := pw h1 hu; exact .tup a1 a2
theorem val_upB {Kn Kn' : Nat → Nat → Prop} {ρ ρ' : Rho} {w : World} {Z Y : Nat → Prop} {g : Nat → Option Nat} (hk : ∀ i k j, g i = some j → Kn i k → Kn' j k ∧ ρ' j k = ρ i k) {x : AV} {v : Value} (h : Val Kn ρ w Z Y x v) : Val Kn' ρ' w Z Y (upB g x) v := val_upK hk 5 h
theorem upP_holds {Kn Kn' : Nat → Nat → Prop} {ρ ρ' : Rho} {w : World} {Z Y : Nat → Prop} {g : Nat → Option Nat} (hk : ∀ i k j, g i = some j → Kn i k → Kn' j k ∧ ρ' j k = ρ i k) {i j : Nat} {o : Ob} (hρ : ∀ k, k < o.lim → ρ' j k = ρ i k) (h : o.holds (Val Kn ρ w Z Y) ρ w Z i) :
    (upP g o).holds (Val Kn' ρ' w Z Y) ρ' w Z j := by
  cases o with
  | box t cs =>
    obtain ⟨b, us, h1, h2, h3, h4⟩ := h
    refine ⟨b, us, by rw [hρ 0 (Nat.le_refl _)]; exact h1, h2, ⟨by rw [List.length_map]; exact h3.len, fun q x u hj hu => ?_⟩, h4⟩
    rw [List.getElem?_map] at hj
    cases hx : cs[q]? with
    | none => rw [hx] at hj; cases hj
    | some y => rw [hx] at hj; cases hj; exact val_upB hk (h3.at_ q y u hx hu)
  | row k E s els =>
    obtain ⟨h1, xs, h2, h3⟩ := h
    have e := hρ k (Nat.le_refl _)
    exact ⟨by rw [e]; exact h1, xs, h2, by rw [e]; exact h3⟩
  | gone => trivial
  | hole => trivial
  | mp es =>
    obtain ⟨b, arr, c, h1, h2, h3⟩ := h
    exact ⟨b, arr, c, by rw [hρ 0 (Nat.le_refl _)]; exact h1, h2, h3⟩
  | ra k E cs =>
    obtain ⟨h1, us, h2, h3, h4⟩ := h
    have e := hρ k (Nat.le_refl _)
    refine ⟨by rw [e]; exact h1, us, ⟨by rw [List.length_map]; exact h2.len, fun q x u hj hu => ?_⟩, h3, by rw [e, List.length_map]; exact h4⟩
    rw [List.getElem?_map] at hj
    cases hx : cs[q]? with
    | none => rw [hx] at hj; cases hj
    | some y => rw [hx] at hj; cases hj; exact val_upB hk (h2.at_ q y u hx hu)
theorem upP_blk {ρ ρ' : Rho} {g : Nat → Option Nat} {i j : Nat} {o : Ob} (hρ : ∀ k, k < o.lim → ρ' j k = ρ i k) : (upP g o).blk ρ' j = o.blk ρ i := by
  cases o with
  | box t cs => simp only [upP, Ob.blk]; rw [hρ 0 (Nat.le_refl _)]
  | row k E s els => simp only [upP, Ob.blk]; rw [hρ k (Nat.le_refl _)]
  | gone => rfl
  | hole => rfl
  | mp es => simp only [upP, Ob.blk]; rw [hρ 0 (Nat.le_refl _)]
  | ra k E cs => simp only [upP, Ob.blk]; rw [hρ k (Nat.le_refl _)]
theorem upP_lim {g : Nat → Option Nat} (o : Ob) : (upP g o).lim = o.lim := by cases o <;> rfl
section
variable {P : Program} {Q : QS} {n : Fr} {T : Nat → AV} {heap : List Ob} {d : Nat}
theorem Ok.sel2 {e : Env} {w : World} {ρ : Rho} {Z Y : Nat → Prop} (h : Ok e heap w ρ Z Y) {heap' : List Ob} (f : Nat → Nat) (g : Nat → Option Nat) (hinj : ∀ i j, i < heap'.length → j < heap'.length → f i = f j → i = j)
    (hget : ∀ (j : Nat) (o' : Ob), heap'[j]? = some o' → ∃ o, heap[f j]? = some o ∧ o' = upP g o) (hg : ∀ i j, i < heap.length → g i = some j → f j = i ∧ j < heap'.length) (hH : ∀ i, i < e.H.length → i < heap.length → i < heap'.length ∧ f i = i) :
    ∃ ρ', Ok e heap' w ρ' Z Y ∧ ∀ x v, Val (Kn heap) ρ w Z Y x v → Val (Kn heap') ρ' w Z Y (upB g x) v := by
  let ρ' : Rho := fun j k => ρ (f j) k
  have kn : ∀ (j k : Nat), j < heap'.length → Kn heap (f j) k → Kn heap' j k := fun j k hj ⟨o, ho, hk⟩ => by
    obtain ⟨o1, h1, h2⟩ := hget j _ (List.getElem?_eq_getElem hj)
    rw [ho] at h1; cases h1
    exact ⟨_, List.getElem?_eq_getElem hj, by rw [h2, upP_lim]; exact hk⟩
  have up : ∀ i k j, g i = some j → Kn heap i k → Kn heap' j k ∧ ρ' j k = ρ i k := fun i k j hj hk => by
    have hlt : i < heap.length := hk.elim fun _ h => get_lt h.1
    obtain ⟨h1, h2⟩ := hg i j hlt hj
    subst h1
    exact ⟨kn j k h2 hk, rfl⟩
  have hval : ∀ x v, Val (Kn heap) ρ w Z Y x v → Val (Kn heap') ρ' w Z Y (upB g x) v := fun x v hv => val_upB up hv
  have blk : ∀ (j : Nat) (o : Ob), (upP g o).blk ρ' j = o.blk ρ (f j) := fun j o => upP_blk fun k _ => rfl
  refine ⟨ρ', ⟨⟨fun j o' hj => ?_, fun i j o o' b hi hj hp hq => ?_, fun j o' b hj hp => ?_, h.rep.zy, h.rep.ylt⟩, fun j o' b hj hp => ?_, h.zone, h.z0, h.y0, fun i k hk => ?_, h.os, h.tape, h.output, h.size, h.keep⟩, hval⟩
  · obtain ⟨o, h1, rfl⟩ := hget j o' hj
    exact upP_holds up (fun k _ => rfl) (h.rep.obs _ o h1)
  · obtain ⟨p, h1, rfl⟩ := hget i o hi
    obtain ⟨q, h2, rfl⟩ := hget j o' hj
    rw [blk] at hp hq
    exact hinj i j (get_lt hi) (get_lt hj) (h.rep.apart _ _ p q b h1 h2 hp hq)
  · obtain ⟨o, h1, rfl⟩ := hget j o' hj
    rw [blk] at hp
    exact h.rep.own _ o b h1 hp
  · obtain ⟨o, h1, rfl⟩ := hget j o' hj
    rw [blk] at hp
    exact h.dom _ o b h1 hp
  · obtain ⟨h1, h2⟩ := h.rho i k hk
    have hi : i < e.H.length := by obtain ⟨o, ho, _⟩ := hk; exact get_lt ho
    have hi' : i < heap.length := by obtain ⟨o, ho, _⟩ := h1; exact get_lt ho
    obtain ⟨h3, h4⟩ := hH i hi hi'
    refine ⟨kn i k h3 (by rw [h4]; exact h1), ?_⟩
    show ρ (f i) k = _
    rw [h4]; exact h2
def Fk (g : Nat → Option Nat) (T T' : Nat → AV) : Prop := ∀ t, T' t = .any ∨ T' t = upB g (T t)
theorem Fk.nil {g : Nat → Option Nat} : Fk g T (fun _ => .any) := fun _ => .inl rfl
theorem Fk.pu {g : Nat → Option Nat} {T' : Nat → AV} {d : Nat} {x : AV} (hx : upB g (T d) = x) (k : Fk g T T') : Fk g T (pu T' d x) := fun t => by
  cases hb : Nat.beq t d with
  | true =>
    have := Nat.eq_of_beq_eq_true hb
    subst this
    simp only [Go.Proofs.Ytmljglphegeilaa.pu, Nat.beq_refl, cond_true]
    exact .inr hx.symm
  | false =>
    simp only [Go.Proofs.Ytmljglphegeilaa.pu, hb, cond_false]
    exact k t
theorem Wk.cut2 {T' : Nat → AV} {heap' : List Ob} (m : Nat) (hm : n.h ≤ m) (hh : (heap.take m).map (upP (keepG m)) = heap') (hT : Fk (keepG m) T T') : Wk n T heap T' heap' := by
  subst hh
  rintro e a w ⟨ρ, Z, Y, hR⟩
  have hlen : ((heap.take m).map (upP (keepG m))).length = min m heap.length := by simp
  obtain ⟨ρ', k1, k2⟩ := Ok.sel2 (heap := heap) hR.ok (heap' := (heap.take m).map (upP (keepG m))) id (keepG m) (fun i j _ _ h => h) (fun j o' hj => by
    rw [List.getElem?_map, List.getElem?_take] at hj
    split at hj
    · cases hx : heap[j]? with
      | none => rw [hx] at hj; cases hj
      | some o => rw [hx] at hj; cases hj; exact ⟨o, hx, rfl⟩
    · cases hj) (fun i j hi hj => by
    obtain ⟨rfl, h2⟩ := keepG_some hj
    exact ⟨rfl, by rw [hlen]; omega⟩) (fun i h1 h2 => by
    have h3 : e.H.length ≤ n.h := hR.hl
    exact ⟨by rw [hlen]; omega, rfl⟩)
  refine ⟨ρ', Z, Y, k1, hR.defers, hR.n, hR.hl, fun t v ht => ?_⟩
  rcases hT t with h | h
  · show Val _ _ _ _ _ (T' t) _
    rw [h]; exact .any _
  · show Val _ _ _ _ _ (T' t) _
    rw [h]; exact k2 _ _ (hR.at_ t v ht)
end
end Go.Proofs.Ytmljglphegeilaa

namespace Go.Proofs.Ytmljglphegeilaa
set_option linter.unusedVariables false
set_option linter.unusedSimpArgs false
set_option linter.unnecessarySimpa false
open Go.RowKit
def setSel : List Ob → List Nat → List Ob → List Ob
  | heap, [], _ => heap
  | heap, _ :: _, [] => heap
  | heap, i :: sel, o :: os => setSel (heap.set i o) sel os
def gIO (sel : List Nat) (N : Nat) : Nat → Option Nat := fun i => match sel[i]? with
  | some j => some j
  | none => some (N + (i - sel.length))
theorem setSel_len : ∀ (sel : List Nat) (os : List Ob) (heap : List Ob), (setSel heap sel os).length = heap.length
  | [], _, _ => by rw [setSel]
  | _ :: _, [], _ => by rw [setSel]
  | i :: sel, o :: os, heap => by rw [setSel, setSel_len sel os]; simp
theorem setSel_out : ∀ (sel : List Nat) (os : List Ob) (heap : List Ob) (j : Nat), j ∉ sel → (setSel heap sel os)[j]? = heap[j]?
  | [], _, _, _, _ => by rw [setSel]
  | _ :: _, [], _, _, _ => by rw [setSel]
  | i :: sel, o :: os, heap, j, h => by
    simp only [List.mem_cons, not_or] at h
    rw [setSel, setSel_out sel os _ j h.2, List.getElem?_set, if_neg (Ne.symm h.1)]
theorem setSel_in : ∀ (sel : List Nat) (os : List Ob) (heap : List Ob) (p i : Nat) (o : Ob), sel.Nodup → sel[p]? = some i → os[p]? = some o → i < heap.length → (setSel heap sel os)[i]? = some o
  | [], _, _, p, i, o, _, h, _, _ => by simp at h
  | _ :: _, [], _, p, i, o, _, _, h, _ => by simp at h
  | i0 :: sel, o0 :: os, heap, 0, i, o, hn, h1, h2, hl => by
    simp at h1 h2; subst h1 h2
    rw [setSel, setSel_out sel os _ i0 (List.nodup_cons.1 hn).1, List.getElem?_set, if_pos rfl, if_pos hl]
  | i0 :: sel, o0 :: os, heap, p + 1, i, o, hn, h1, h2, hl => by
    rw [setSel]
    exact setSel_in sel os _ p i o (List.nodup_cons.1 hn).2 (by simpa using h1) (by simpa using h2) (by simpa using hl)
inductive PassO (heap : List Ob) (sel : List Nat) : Ob → Ob → Prop
  | row {k : Nat} {E : TypeId} {s : Nat} {els : List (List Tr)} : PassO heap sel (.row k E s els) (.row k E s els)
  | box {t : TypeId} {cs cs' : List AV} (h : PassL heap sel cs cs') : PassO heap sel (.box t cs) (.box t cs')
inductive PassH (heap : List Ob) (sel : List Nat) : List Nat → List Ob → Prop
  | nil : PassH heap sel [] []
  | cons {i : Nat} {o o' : Ob} {l : List Nat} {H : List Ob} (hi : heap[i]? = some o) (h : PassO heap sel o o') (k : PassH heap sel l H) : PassH heap sel (i :: l) (o' :: H)
theorem PassH.get {heap : List Ob} {sel l : List Nat} {H : List Ob} (h : PassH heap sel l H) : l.length = H.length ∧ ∀ (p i : Nat), l[p]? = some i → ∃ o o', heap[i]? = some o ∧ H[p]? = some o' ∧ PassO heap sel o o' := by
  induction h with
  | nil => exact ⟨rfl, fun p i h => by simp at h⟩
  | @cons i o o' l H hi h k ih =>
    refine ⟨by simp [ih.1], fun p j hp => ?_⟩
    cases p with
    | zero => simp at hp; subst hp; exact ⟨o, o', hi, rfl, h⟩
    | succ p => exact ih.2 p j (by simpa using hp)
theorem PassO.lim {heap : List Ob} {sel : List Nat} {o o' : Ob} (h : PassO heap sel o o') : o'.lim = o.lim := by cases h <;> rfl
theorem PassO.blk {heap : List Ob} {sel : List Nat} {o o' : Ob} (h : PassO heap sel o o') {ρ ρ' : Rho} {i j : Nat} (hρ : ∀ k, ρ' j k = ρ i k) : o'.blk ρ' j = o.blk ρ i := by
  cases h with
  | row => simp only [Ob.blk, hρ]
  | box => simp only [Ob.blk, hρ]
section
variable {P : Program} {ops : Array Oper} {Q : QS} {rest : List Oper} {o : Oper} {n : Fr} {T : Nat → AV} {heap : List Ob} {d : Nat}
def Dio (heap : List Ob) (sel : List Nat) (w : World) (ρ : Rho) (b : Nat) : Prop := (∃ i o, i ∈ sel ∧ heap[i]? = some o ∧ o.blk ρ i = some b) ∨ w.heap.size ≤ b
def ioEnv (heap : List Ob) (sel : List Nat) (H : List Ob) (w : World) (ρ : Rho) (Z : Nat → Prop) : Env :=
  { W := w, D := Dio heap sel w ρ, H := H, ρ := fun p k => ρ (sel.getD p 0) k, Z := Z, Y := fun b => b < w.heap.size ∧ ¬ Dio heap sel w ρ b, big := fun _ h => .inr h, yd := fun b h1 h2 => h1.2 h2 }
theorem sel_getD {sel : List Nat} {p i : Nat} (h : sel[p]? = some i) : sel.getD p 0 = i := by rw [List.getD_eq_getElem?_getD, h]; rfl
theorem io_val {w : World} {ρ : Rho} {Z Y : Nat → Prop} (h : HRep heap w ρ Z Y) {sel : List Nat} {H : List Ob} (hH : PassH heap sel sel H) {x y : AV} (hp : Pass heap sel x y) {v : Value} (hv : Val (Kn heap) ρ w Z Y x v) :
    Val (Kn H) (ioEnv heap sel H w ρ Z).ρ w Z (ioEnv heap sel H w ρ Z).Y y v := by
  have q1 : ∀ b, Y b → (ioEnv heap sel H w ρ Z).Y b := fun b hb => ⟨h.ylt b hb, by
    rintro (⟨i, o, hi, ho, hb'⟩ | hge)
    · exact (h.own i o b ho hb').2 hb
    · have := h.ylt b hb; omega⟩
  have q2 : ∀ (i : Nat) (o : Ob) (b : Nat), heap[i]? = some o → sel.contains i = false → o.blk ρ i = some b → (ioEnv heap sel H w ρ Z).Y b := fun i o b hi hn hb => ⟨(h.own i o b hi hb).1, by
    rintro (⟨j, o', hj, ho', hb'⟩ | hge)
    · have := h.apart i j o o' b hi ho' hb hb'
      subst this
      simp at hn
      exact hn hj
    · have := (h.own i o b hi hb).1; omega⟩
  refine val_pass h q1 (fun p i k hpi hk => ?_) q2 hp hv
  obtain ⟨o, o', h1, h2, h3⟩ := hH.get.2 p i hpi
  obtain ⟨o1, h4, h5⟩ := hk
  rw [h1] at h4; cases h4
  exact ⟨⟨o', h2, by rw [h3.lim]; exact h5⟩, by show ρ (sel.getD p 0) k = _; rw [sel_getD hpi]⟩
theorem io_rep {w : World} {ρ : Rho} {Z Y : Nat → Prop} (h : HRep heap w ρ Z Y) {sel : List Nat} (hnd : sel.Nodup) {H : List Ob} (hH : PassH heap sel sel H) : HRep H w (ioEnv heap sel H w ρ Z).ρ Z (ioEnv heap sel H w ρ Z).Y ∧
    ∀ (p : Nat) (o : Ob) (b : Nat), H[p]? = some o → o.blk (ioEnv heap sel H w ρ Z).ρ p = some b → (ioEnv heap sel H w ρ Z).D b := by
  obtain ⟨hl, hg⟩ := hH.get
  have get : ∀ (p : Nat) (o' : Ob), H[p]? = some o' → ∃ i o, sel[p]? = some i ∧ heap[i]? = some o ∧ PassO heap sel o o' := fun p o' hp => by
    have hlt := get_lt hp
    obtain ⟨o, o1, h1, h2, h3⟩ := hg p _ (List.getElem?_eq_getElem (by omega))
    rw [hp] at h2; cases h2
    exact ⟨_, o, List.getElem?_eq_getElem (by omega), h1, h3⟩
  have ρe : ∀ {p i : Nat}, sel[p]? = some i → ∀ k, (ioEnv heap sel H w ρ Z).ρ p k = ρ i k := fun {p i} hp k => by show ρ (sel.getD p 0) k = _; rw [sel_getD hp]
  refine ⟨⟨fun p o' hp => ?_, fun p q o1 o2 b hp hq hb hb' => ?_, fun p o' b hp hb => ?_, fun b hb => ⟨h.ylt b (h.zy b hb), ?_⟩, fun b hb => hb.1⟩, fun p o' b hp hb => ?_⟩
  · obtain ⟨i, o, h1, h2, h3⟩ := get p o' hp
    have ho := h.obs i o h2
    cases h3 with
    | row =>
      obtain ⟨a1, xs, a2, a3⟩ := ho
      refine ⟨by rw [ρe h1]; exact a1, xs, a2, ?_⟩
      rw [ρe h1]; exact a3
    | @box t cs cs' hL =>
      obtain ⟨b, us, a1, a2, a3, a4⟩ := ho
      obtain ⟨l1, l2⟩ := hL.get
      refine ⟨b, us, by rw [ρe h1]; exact a1, a2, ⟨by rw [← l1]; exact a3.len, fun j y u hj hu => ?_⟩, a4⟩
      have hlt := get_lt hj
      rw [← l1] at hlt
      exact io_val h hH (l2 j _ y (List.getElem?_eq_getElem hlt) hj) (a3.at_ j _ u (List.getElem?_eq_getElem hlt) hu)
  · obtain ⟨i, oi, a1, a2, a3⟩ := get p o1 hp
    obtain ⟨j, oj, b1, b2, b3⟩ := get q o2 hq
    rw [a3.blk (ρe a1)] at hb
    rw [b3.blk (ρe b1)] at hb'
    have hij := h.apart i j oi oj b a2 b2 hb hb'
    subst hij
    have c1 := get_lt a1
    have c2 := get_lt b1
    rw [List.getElem?_eq_getElem c1] at a1
    rw [List.getElem?_eq_getElem c2] at b1
    rcases Nat.lt_trichotomy p q with c | c | c
    · exact absurd ((Option.some.inj a1).trans (Option.some.inj b1).symm) (List.pairwise_iff_getElem.1 hnd p q c1 c2 c)
    · exact c
    · exact absurd ((Option.some.inj b1).trans (Option.some.inj a1).symm) (List.pairwise_iff_getElem.1 hnd q p c2 c1 c)
  · obtain ⟨i, oi, a1, a2, a3⟩ := get p o' hp
    rw [a3.blk (ρe a1)] at hb
    exact ⟨(h.own i oi b a2 hb).1, fun hy => hy.2 (.inl ⟨i, oi, List.mem_of_getElem? a1, a2, hb⟩)⟩
  · rintro (⟨i, o, hi, ho, hb'⟩ | hge)
    · exact (h.own i o b ho hb').2 (h.zy b hb)
    · have := h.ylt b (h.zy b hb); omega
  · obtain ⟨i, oi, a1, a2, a3⟩ := get p o' hp
    rw [a3.blk (ρe a1)] at hb
    exact .inl ⟨i, oi, List.mem_of_getElem? a1, a2, hb⟩
theorem Ok.backio {e : Env} {w w' : World} {ρ ρ1 : Rho} {Z Y Z1 Y1 : Nat → Prop} (h : Ok e heap w ρ Z Y) {sel : List Nat} (hnd : sel.Nodup) {H : List Ob} (hH : PassH heap sel sel H) {hp : List Ob} (k : Ok (ioEnv heap sel H w ρ Z) hp w' ρ1 Z1 Y1) {heap' : List Ob}
    (hh : setSel heap sel (hp.map (upO (gIO sel heap.length))) ++ (hp.drop sel.length).map (upO (gIO sel heap.length)) = heap') :
    ∃ ρ', Ok e heap' w' ρ' Z1 (fun b => Y b ∨ Z1 b) ∧ (∀ x v, Val (Kn heap) ρ w Z Y x v → Val (Kn heap') ρ' w' Z1 (fun b => Y b ∨ Z1 b) x v) ∧ ∀ x v, Val (Kn hp) ρ1 w' Z1 Y1 x v → Val (Kn heap') ρ' w' Z1 (fun b => Y b ∨ Z1 b) (upA (gIO sel heap.length) x) v := by
  obtain ⟨hl, hg⟩ := hH.get
  have hsellt : ∀ {p i : Nat}, sel[p]? = some i → i < heap.length := fun {p i} hp' => by obtain ⟨o, _, h1, _⟩ := hg p i hp'; exact get_lt h1
  -- the objects that were handed over are still there
  have hph : sel.length ≤ hp.length := by
    rcases Nat.lt_or_ge hp.length sel.length with c | c
    · obtain ⟨o, o', h1, h2, h3⟩ := hg hp.length _ (List.getElem?_eq_getElem c)
      have hlim : 0 < o'.lim := by cases h3 <;> simp [Ob.lim]
      obtain ⟨⟨p, hp', _⟩, _⟩ := k.rho hp.length 0 ⟨o', h2, hlim⟩
      have := get_lt hp'
      omega
    · exact c
  have hsz : w.heap.size ≤ w'.heap.size := k.size
  have keep : ∀ b, ¬ Dio heap sel w ρ b → w'.heap[b]? = w.heap[b]? := fun b hb => k.keep b hb
  have hy : ∀ b, Y b → ¬ Dio heap sel w ρ b := fun b hb => by
    rintro (⟨i, o, hi, ho, hb'⟩ | hge)
    · exact (h.rep.own i o b ho hb').2 hb
    · have := h.rep.ylt b hb; omega
  have hrest : ∀ {j : Nat} {o : Ob} {b : Nat}, heap[j]? = some o → j ∉ sel → o.blk ρ j = some b → ¬ Dio heap sel w ρ b := fun {j o b} hj hn hb => by
    rintro (⟨i, o', hi, ho, hb'⟩ | hge)
    · have := h.rep.apart j i o o' b hj ho hb hb'
      subst this; exact hn hi
    · have := (h.rep.own j o b hj hb).1; omega
  let g := gIO sel heap.length
  let ρ' : Rho := fun j q => match findG sel 0 j with
    | some p => ρ1 p q
    | none => if heap.length ≤ j then ρ1 (sel.length + (j - heap.length)) q else ρ j q
  have fnd : ∀ {p i : Nat}, sel[p]? = some i → findG sel 0 i = some p := fun {p i} hpi => by
    have key : ∀ (l : List Nat) (m p : Nat), l.Nodup → l[p]? = some i → findG l m i = some (m + p) := by
      intro l
      induction l with
      | nil => intro m p _ h; simp at h
      | cons x l ih =>
        intro m p hn hx
        unfold findG
        cases p with
        | zero => simp at hx; subst hx; rw [Nat.beq_refl]; rfl
        | succ p =>
          have hx' : l[p]? = some i := by simpa using hx
          have hne : x ≠ i := fun e => (List.nodup_cons.1 hn).1 (by rw [e]; exact List.mem_of_getElem? hx')
          rw [beq_ne hne, cond_false, ih (m + 1) p (List.nodup_cons.1 hn).2 hx']
          congr 1; omega
    have := key sel 0 p hnd hpi
    simpa using this
  have fnone : ∀ {j : Nat}, j ∉ sel → findG sel 0 j = none := fun {j} hj => by
    cases hf : findG sel 0 j with
    | none => rfl
    | some p => exact absurd (List.mem_of_getElem? (by have := (findG_some hf).2; simpa using this)) hj
  have ρs : ∀ {p i : Nat}, sel[p]? = some i → ∀ q, ρ' i q = ρ1 p q := fun {p i} hpi q => by show (match findG sel 0 i with | some p => ρ1 p q | none => _) = _; rw [fnd hpi]
  have ρn : ∀ i q, ρ' (heap.length + i) q = ρ1 (sel.length + i) q := fun i q => by
    show (match findG sel 0 (heap.length + i) with | some p => ρ1 p q | none => if heap.length ≤ heap.length + i then ρ1 (sel.length + (heap.length + i - heap.length)) q else _) = _
    rw [fnone fun hm => by obtain ⟨p, hp'⟩ := List.getElem?_of_mem hm; have := hsellt hp'; omega, if_pos (by omega), Nat.add_sub_cancel_left]
  have ρo : ∀ j q, Kn heap j q → ρ' j q = ρ j q := fun j q hk => by
    by_cases hj : j ∈ sel
    · obtain ⟨p, hp'⟩ := List.getElem?_of_mem hj
      obtain ⟨o, o', h1, h2, h3⟩ := hg p j hp'
      obtain ⟨o1, h4, h5⟩ := hk
      rw [h1] at h4; cases h4
      rw [ρs hp']
      have := (k.rho p q ⟨o', h2, by rw [h3.lim]; exact h5⟩).2
      rw [this]
      show ρ (sel.getD p 0) q = _
      rw [sel_getD hp']
    · show (match findG sel 0 j with | some p => ρ1 p q | none => if heap.length ≤ j then _ else ρ j q) = _
      obtain ⟨o, h1, _⟩ := hk
      have := get_lt h1
      rw [fnone hj, if_neg (by omega)]
  have hlen : (setSel heap sel (hp.map (upO g))).length = heap.length := setSel_len _ _ _
  have part : ∀ (j : Nat) (o : Ob), heap'[j]? = some o → (∃ p o1, sel[p]? = some j ∧ hp[p]? = some o1 ∧ o = upO g o1) ∨ (∃ q o1, j = heap.length + q ∧ hp[sel.length + q]? = some o1 ∧ o = upO g o1) ∨ (j ∉ sel ∧ heap[j]? = some o) := fun j o hj => by
    rw [← hh] at hj
    by_cases c : j < heap.length
    · rw [List.getElem?_append_left (by rw [hlen]; exact c)] at hj
      by_cases hs : j ∈ sel
      · obtain ⟨p, hp'⟩ := List.getElem?_of_mem hs
        have hpl := get_lt hp'
        have h1 : hp[p]? = some (hp[p]'(by omega)) := List.getElem?_eq_getElem (by omega)
        rw [setSel_in sel _ heap p j (upO g (hp[p]'(by omega))) hnd hp' (by rw [List.getElem?_map, h1]; rfl) c] at hj
        cases hj
        exact .inl ⟨p, _, hp', h1, rfl⟩
      · rw [setSel_out sel _ heap j hs] at hj
        exact .inr (.inr ⟨hs, hj⟩)
    · rw [List.getElem?_append_right (by rw [hlen]; omega), hlen, List.getElem?_map, List.getElem?_drop] at hj
      cases hx : hp[sel.length + (j - heap.length)]? with
      | none => rw [hx] at hj; cases hj
      | some o1 => rw [hx] at hj; cases hj; exact .inr (.inl ⟨j - heap.length, o1, by omega, hx, rfl⟩)
  have getS : ∀ {p i : Nat} {o1 : Ob}, sel[p]? = some i → hp[p]? = some o1 → heap'[i]? = some (upO g o1) := fun {p i o1} h1 h2 => by
    rw [← hh, List.getElem?_append_left (by rw [hlen]; exact hsellt h1)]
    exact setSel_in sel _ heap p i _ hnd h1 (by rw [List.getElem?_map, h2]; rfl) (hsellt h1)
  have getN : ∀ {q : Nat} {o1 : Ob}, hp[sel.length + q]? = some o1 → heap'[heap.length + q]? = some (upO g o1) := fun {q o1} h1 => by
    rw [← hh, List.getElem?_append_right (by rw [hlen]; omega), hlen, Nat.add_sub_cancel_left, List.getElem?_map, List.getElem?_drop, h1]; rfl
  have up : ∀ i q j, g i = some j → Kn hp i q → Kn heap' j q ∧ ρ' j q = ρ1 i q := by
    rintro i q j hj ⟨o1, h1, h2⟩
    simp only [g, gIO] at hj
    cases hs : sel[i]? with
    | some i' =>
      rw [hs] at hj; cases hj
      exact ⟨⟨_, getS hs h1, by rw [upO_lim]; exact h2⟩, ρs hs q⟩
    | none =>
      rw [hs] at hj; cases hj
      have hge : sel.length ≤ i := by
        rcases Nat.lt_or_ge i sel.length with c | c
        · rw [List.getElem?_eq_getElem c] at hs; cases hs
        · exact c
      have e1 : sel.length + (i - sel.length) = i := by omega
      exact ⟨⟨_, getN (by rw [e1]; exact h1), by rw [upO_lim]; exact h2⟩, by rw [ρn, e1]⟩
  have kn : ∀ j q, Kn heap j q → Kn heap' j q := fun j q hk => by
    by_cases hj : j ∈ sel
    · obtain ⟨p, hp'⟩ := List.getElem?_of_mem hj
      obtain ⟨o, o', h1, h2, h3⟩ := hg p j hp'
      obtain ⟨o1, h4, h5⟩ := hk
      rw [h1] at h4; cases h4
      obtain ⟨⟨o2, h6, h7⟩, _⟩ := k.rho p q ⟨o', h2, by rw [h3.lim]; exact h5⟩
      exact ⟨_, getS hp' h6, by rw [upO_lim]; exact h7⟩
    · obtain ⟨o1, h4, h5⟩ := hk
      refine ⟨o1, ?_, h5⟩
      rw [← hh, List.getElem?_append_left (by rw [hlen]; exact get_lt h4), setSel_out sel _ heap j hj]
      exact h4
  have hy' : ∀ b, Y b → (Y b ∨ Z1 b) ∧ w'.heap[b]? = w.heap[b]? := fun b hb => ⟨.inl hb, keep b (hy b hb)⟩
  have hz' : ∀ b, Z b → Z1 b ∧ w'.heap[b]? = w.heap[b]? := fun b hb => ⟨k.z0 b hb, keep b (hy b (h.rep.zy b hb))⟩
  have hkn : ∀ j q, Kn heap j q → Kn heap' j q ∧ ρ' j q = ρ j q := fun j q hk => ⟨kn j q hk, ρo j q hk⟩
  have z1 : ∀ b, Z1 b → Z b ∨ Dio heap sel w ρ b := fun b hb => k.zone b hb
  have blkS : ∀ {p i : Nat} {o1 : Ob}, sel[p]? = some i → (upO g o1).blk ρ' i = o1.blk ρ1 p := fun {p i o1} hpi => upO_blk fun m _ => ρs hpi m
  have blkN : ∀ {q : Nat} {o1 : Ob}, (upO g o1).blk ρ' (heap.length + q) = o1.blk ρ1 (sel.length + q) := fun {q o1} => upO_blk fun m _ => ρn q m
  have blkR : ∀ {j : Nat} {o1 : Ob}, heap[j]? = some o1 → o1.blk ρ' j = o1.blk ρ j := fun {j o1} hj => Ob.blk_mono fun m hm => ρo j m ⟨o1, hj, hm⟩
  -- each object of the new list: one that came back (at its number there), or one of the rest
  have view : ∀ (j : Nat) (o : Ob) (b : Nat), heap'[j]? = some o → o.blk ρ' j = some b → (∃ i o1, hp[i]? = some o1 ∧ o1.blk ρ1 i = some b ∧ g i = some j) ∨ (j ∉ sel ∧ heap[j]? = some o ∧ o.blk ρ j = some b) := fun j o b hj hb => by
    rcases part j o hj with ⟨p, o1, h1, h2, rfl⟩ | ⟨q, o1, rfl, h2, rfl⟩ | ⟨h1, h2⟩
    · rw [blkS h1] at hb
      exact .inl ⟨p, o1, h2, hb, by show gIO sel heap.length p = _; simp only [gIO, h1]⟩
    · rw [blkN] at hb
      refine .inl ⟨sel.length + q, o1, h2, hb, ?_⟩
      show gIO sel heap.length _ = _
      simp only [gIO]
      rw [List.getElem?_eq_none (by omega)]
      simp
    · rw [blkR h2] at hb
      exact .inr ⟨h1, h2, hb⟩
  have hDD : ∀ b, Dio heap sel w ρ b → e.D b := by
    rintro b (⟨i, o, hi, ho, hb⟩ | hge)
    · exact h.dom i o b ho hb
    · exact e.big b (Nat.le_trans h.size hge)
  have hrep : HRep heap' w' ρ' Z1 (fun b => Y b ∨ Z1 b) := by
    refine ⟨fun j o hj => ?_, fun i j o o' b hi hj hb hb' => ?_, fun j o b hj hb => ?_, fun b hb => .inr hb, fun b hb => ?_⟩
    · rcases part j o hj with ⟨p, o1, h1, h2, rfl⟩ | ⟨q, o1, rfl, h2, rfl⟩ | ⟨h1, h2⟩
      · exact upO_holds up (fun m _ => ρs h1 m) (k.rep.obs p o1 h2)
      · exact upO_holds up (fun m _ => ρn q m) (k.rep.obs _ o1 h2)
      · exact Ob.holds_mono (fun x v hx => hx.mono hkn hz' hy') (fun m hm => ρo j m ⟨o, h2, hm⟩) hz' (fun b hb => keep b (hrest h2 h1 hb)) (h.rep.obs j o h2)
    · rcases view i o b hi hb with ⟨p, o1, h1, h2, h3⟩ | ⟨h1, h2, h3⟩ <;> rcases view j o' b hj hb' with ⟨q, o2, g1, g2, g3⟩ | ⟨g1, g2, g3⟩
      · have := k.rep.apart p q o1 o2 b h1 g1 h2 g2
        subst this
        rw [h3] at g3; exact Option.some.inj g3
      · exact absurd (k.dom p o1 b h1 h2) (hrest g2 g1 g3)
      · exact absurd (k.dom q o2 b g1 g2) (hrest h2 h1 h3)
      · exact h.rep.apart i j o o' b h2 g2 h3 g3
    · rcases view j o b hj hb with ⟨p, o1, h1, h2, h3⟩ | ⟨h1, h2, h3⟩
      · have a1 := k.rep.own p o1 b h1 h2
        have a2 := k.dom p o1 b h1 h2
        refine ⟨a1.1, fun hb' => ?_⟩
        rcases hb' with hb' | hb'
        · exact hy b hb' a2
        · exact a1.2 (k.rep.zy b hb')
      · have a1 := h.rep.own j o b h2 h3
        refine ⟨Nat.lt_of_lt_of_le a1.1 hsz, fun hb' => ?_⟩
        rcases hb' with hb' | hb'
        · exact a1.2 hb'
        · rcases z1 b hb' with c | c
          · exact a1.2 (h.rep.zy b c)
          · exact hrest h2 h1 h3 c
    · rcases hb with hb | hb
      · exact Nat.lt_of_lt_of_le (h.rep.ylt b hb) hsz
      · exact k.rep.ylt b (k.rep.zy b hb)
  refine ⟨ρ', h.mono hrep hkn ⟨k.os, k.tape, k.output⟩ hsz (fun j o b hj hb => ?_) (fun b hb => k.z0 b hb) (fun b hb => .inl hb) (fun b hb => (z1 b hb).elim .inl fun hd => .inr (hDD b hd)) (fun b _ hd => keep b fun hd' => hd (hDD b hd')), fun x v hv => h.rep.val hkn (fun b hb => k.z0 b hb) hy' hv, fun x v hv => val_up up hv⟩
  rcases view j o b hj hb with ⟨p, o1, h1, h2, h3⟩ | ⟨h1, h2, h3⟩
  · exact hDD b (k.dom p o1 b h1 h2)
  · exact h.dom j o b h2 h3
def Cio (P : Program) (f : FuncId) (args : List AV) (H : List Ob) (r : AV) (L : List Ob) : Prop := C P f args H (fun r' L' => r' = r ∧ L' = L)
theorem Cio.enter' {f : FuncId} {fn : Func} {c : Code} (hf : P.funcs[f]? = some fn) (hb : fn.body = some c) {args : List AV} {H : List Ob} {r : AV} {L : List Ob} {N : Nat} (hn : fn.ntmps = N) (hle : Nat.ble args.length N = true) {M : Nat} (hM : H.length = M) (h : AW P c (retQ P fn (fun r' L' => r' = r ∧ L' = L) ⟨N, M⟩) ⟨N, M⟩ (argT args) H) : Cio P f args H r L :=
  C.enter' hf hb hn hle hM h
theorem A_callio (hw : wantedA n T ops o = true) (hd : o.dst = some d) {f : FuncId} {fn : Func} (hf : P.funcs[f]? = some fn) (hn : (fn.name == "runtime.NumGoroutine") = false) (hb : fn.body.isNone = false) {args : Array Operand} {tys : Array TypeId}
    (ho : o.op = .call { callee := .value (.func f), args := args, argTypes := tys }) (sel : List Nat) (hnd : sel.Nodup) {xs : List AV} {H : List Ob} {r : AV} {L : List Ob} (hc : Cio P f xs H r L) (hH : PassH heap sel sel H) (hp : PassL heap sel (args.toList.map (evA n T)) xs)
    {N : Nat} (hN : heap.length = N) {r' : AV} (hr : upA (gIO sel N) r = r') {heap' : List Ob} (hh : setSel heap sel (L.map (upO (gIO sel N))) ++ (L.drop sel.length).map (upO (gIO sel N)) = heap') (k : AL P ops Q rest n (pu T d r') heap') : AL P ops Q (o :: rest) n T heap := by
  subst hN hr
  rintro e a w ⟨ρ, Z, Y, hR⟩
  have hrep := hR.ok.rep
  obtain ⟨hl, hg⟩ := hp.get
  obtain ⟨i1, i2⟩ := io_rep hrep hnd hH
  refine wpList_do (hR.wanted hw) fun K hK => ?_
  unfold Oper.wp
  rw [run_fun hf hn hb ho (args.toList.map a.eval) rfl w]
  refine Calls.mono (hc (ioEnv heap sel H w ρ Z) (args.toList.map a.eval) rfl i1 i2 ⟨by simp at hl ⊢; omega, fun j x u hj hu => ?_⟩) ?_
  · rw [List.getElem?_map] at hu
    cases hx : args.toList[j]? with
    | none => rw [hx] at hu; cases hu
    | some y =>
      rw [hx] at hu; cases hu
      exact io_val hrep hH (hg j (evA n T y) x (by rw [List.getElem?_map, hx]; rfl) hj) (hR.eval y)
  · rintro en w' ⟨v, r1, L1, ρ1, Z1, Y1, rfl, ⟨rfl, rfl⟩, hok, hv⟩
    obtain ⟨ρ', k1, k2, k3⟩ := Ok.backio (heap := heap) hR.ok hnd hH hok hh
    refine hK _ _ (k e _ _ ⟨ρ', Z1, fun b => Y b ∨ Z1 b, ?_⟩)
    rw [hd]
    exact (hR.move k1 k2).put d (k3 _ v hv)
end
end Go.Proofs.Ytmljglphegeilaa

namespace Go.Proofs.Ytmljglphegeilaa
set_option linter.unusedVariables false
set_option linter.unusedSimpArgs false
set_option linter.unnecessarySimpa false
open Go.RowKit
inductive VR (heap : List Ob) (h : Nat) (K : List Nat) : AV → AV → Prop
  | any (x : AV) : VR heap h K x .any
  | t {x y : Tr} (he : x = y) : VR heap h K (.t x) (.t y)
  | nl : VR heap h K .nl .nl
  | old {i k n n' : Nat} (hi : Nat.blt i h = true) (hn : n = n') : VR heap h K (.sl i k n) (.sl i k n')
  | new {i j k n n' : Nat} {E : TypeId} {s : Nat} {els : List (List Tr)} (hj : Nat.ble h j = true) (hq : K[j - h]? = some i) (hi : heap[i]? = some (.row k E s els)) (hn : n = n') : VR heap h K (.sl i k n) (.sl j 0 n')
  | optr {i off : Nat} (hi : Nat.blt i h = true) : VR heap h K (.ptr i off) (.ptr i off)
  | nptr {i j off : Nat} {t : TypeId} {cs : List AV} (hj : Nat.ble h j = true) (hq : K[j - h]? = some i) (hi : heap[i]? = some (.box t cs)) : VR heap h K (.ptr i off) (.ptr j off)
  | agg {l l' : List AV} (h1 : l.length = l'.length) (hp : ∀ (j : Nat) x y, l[j]? = some x → l'[j]? = some y → VR heap h K x y) : VR heap h K (.agg l) (.agg l')
  | tup {l l' : List AV} (h1 : l.length = l'.length) (hp : ∀ (j : Nat) x y, l[j]? = some x → l'[j]? = some y → VR heap h K x y) : VR heap h K (.tup l) (.tup l')
inductive VRL (heap : List Ob) (h : Nat) (K : List Nat) : List AV → List AV → Prop
  | nil : VRL heap h K [] []
  | cons {x y : AV} {l l' : List AV} (hx : VR heap h K x y) (k : VRL heap h K l l') : VRL heap h K (x :: l) (y :: l')
theorem VRL.get {heap : List Ob} {h : Nat} {K : List Nat} {l l' : List AV} (hl : VRL heap h K l l') : l.length = l'.length ∧ ∀ (j : Nat) x y, l[j]? = some x → l'[j]? = some y → VR heap h K x y := by
  induction hl with
  | nil => exact ⟨rfl, fun j x y h => by simp at h⟩
  | cons h k ih =>
    refine ⟨by simp [ih.1], fun j x y hj hy => ?_⟩
    cases j with
    | zero => simp at hj hy; subst hj hy; exact h
    | succ j => exact ih.2 j x y (by simpa using hj) (by simpa using hy)
theorem VR.aggL {heap : List Ob} {h : Nat} {K : List Nat} {l l' : List AV} (hl : VRL heap h K l l') : VR heap h K (.agg l) (.agg l') := .agg hl.get.1 hl.get.2
theorem VR.tupL {heap : List Ob} {h : Nat} {K : List Nat} {l l' : List AV} (hl : VRL heap h K l l') : VR heap h K (.tup l) (.tup l') := .tup hl.get.1 hl.get.2
inductive VO (heap : List Ob) (h : Nat) (K : List Nat) : Bool → Ob → Ob → Prop
  | row {k : Nat} {E : TypeId} {s : Nat} {els els' : List (List Tr)} (he : els = els') : VO heap h K false (.row k E s els) (.row k E s els')
  | rset {k : Nat} {E : TypeId} {s : Nat} {els els' : List (List Tr)} (he : els = els') : VO heap h K true (.row k E s els) (.row 0 E s els')
  | box {r : Bool} {t : TypeId} {cs cs' : List AV} (hl : VRL heap h K cs cs') : VO heap h K r (.box t cs) (.box t cs')
  | gone {k : Nat} : VO heap h K false (.gone k) (.gone k)
inductive VH (heap : List Ob) (h : Nat) (K : List Nat) : Bool → List Nat → List Ob → Prop
  | nil {r : Bool} : VH heap h K r [] []
  | cons {r : Bool} {i : Nat} {o o' : Ob} {l : List Nat} {L : List Ob} (hi : heap[i]? = some o) (ho : VO heap h K r o o') (k : VH heap h K r l L) : VH heap h K r (i :: l) (o' :: L)
theorem VH.get {heap : List Ob} {h : Nat} {K : List Nat} {r : Bool} {l : List Nat} {L : List Ob} (hl : VH heap h K r l L) : l.length = L.length ∧ ∀ (p i : Nat), l[p]? = some i → ∃ o o', heap[i]? = some o ∧ L[p]? = some o' ∧ VO heap h K r o o' := by
  induction hl with
  | nil => exact ⟨rfl, fun p i h => by simp at h⟩
  | @cons i o o' l L hi ho k ih =>
    refine ⟨by simp [ih.1], fun p j hp => ?_⟩
    cases p with
    | zero => simp at hp; subst hp; exact ⟨o, o', hi, rfl, ho⟩
    | succ p => exact ih.2 p j (by simpa using hp)
section
variable {P : Program} {Q : QS} {n : Fr} {T : Nat → AV} {heap : List Ob}
theorem Ok.fin {e : Env} {w : World} {ρ : Rho} {Z Y : Nat → Prop} (hk : Ok e heap w ρ Z Y) {h : Nat} {K : List Nat} (he : e.H.length ≤ h) (hK : K.Nodup) (hK1 : ∀ i ∈ K, h ≤ i) {L1 L2 : List Ob} (h1 : VH heap h K false (List.range h) L1) (h2 : VH heap h K true K L2) :
    ∃ ρ', Ok e (L1 ++ L2) w ρ' Z Y ∧ ∀ x y v, VR heap h K x y → Val (Kn heap) ρ w Z Y x v → Val (Kn (L1 ++ L2)) ρ' w Z Y y v := by
  obtain ⟨l1, g1⟩ := h1.get
  obtain ⟨l2, g2⟩ := h2.get
  simp only [List.length_range] at l1
  let f : Nat → Nat := fun j => if j < h then j else K.getD (j - h) 0
  let ρ' : Rho := fun j k => if j < h then ρ j k else match heap[K.getD (j - h) 0]? with
    | some o => ρ (K.getD (j - h) 0) (o.lim - 1)
    | none => ρ 0 0
  have get : ∀ (j : Nat) (o' : Ob), (L1 ++ L2)[j]? = some o' → ∃ o, heap[f j]? = some o ∧ VO heap h K (decide (h ≤ j)) o o' ∧ (h ≤ j → K[j - h]? = some (f j)) := fun j o' hj => by
    by_cases c : j < h
    · rw [List.getElem?_append_left (by omega)] at hj
      obtain ⟨o, o1, a1, a2, a3⟩ := g1 j j (by rw [List.getElem?_range c])
      rw [hj] at a2; cases a2
      refine ⟨o, by simp only [f, if_pos c]; exact a1, ?_, fun c' => by omega⟩
      rw [show decide (h ≤ j) = false by simp; omega]; exact a3
    · rw [List.getElem?_append_right (by omega), ← l1] at hj
      have hlt := get_lt hj
      rw [← l2] at hlt
      obtain ⟨o, o1, a1, a2, a3⟩ := g2 (j - h) _ (List.getElem?_eq_getElem hlt)
      rw [hj] at a2; cases a2
      have hf : f j = K[j - h] := by simp only [f, if_neg c, List.getD_eq_getElem?_getD, List.getElem?_eq_getElem hlt, Option.getD_some]
      refine ⟨o, by rw [hf]; exact a1, ?_, fun _ => by rw [hf]; exact List.getElem?_eq_getElem hlt⟩
      rw [show decide (h ≤ j) = true by simp; omega]; exact a3
  have ρl : ∀ {j : Nat}, j < h → ∀ k, ρ' j k = ρ j k := fun {j} c k => if_pos c
  have ρg : ∀ {j i : Nat} {o : Ob}, h ≤ j → K[j - h]? = some i → heap[i]? = some o → ∀ k, ρ' j k = ρ i (o.lim - 1) := fun {j i o} c hi ho k => by
    show (if j < h then ρ j k else match heap[K.getD (j - h) 0]? with | some o => ρ (K.getD (j - h) 0) (o.lim - 1) | none => ρ 0 0) = _
    rw [if_neg (by omega), sel_getD hi, ho]
  have knl : ∀ {i k : Nat}, i < h → Kn heap i k → Kn (L1 ++ L2) i k := fun {i k} c ⟨o, ho, hko⟩ => by
    obtain ⟨o1, o', a1, a2, a3⟩ := g1 i i (by rw [List.getElem?_range c])
    rw [ho] at a1; cases a1
    refine ⟨o', by rw [List.getElem?_append_left (by omega)]; exact a2, ?_⟩
    cases a3 <;> exact hko
  have kng : ∀ {i j : Nat}, h ≤ j → K[j - h]? = some i → Kn (L1 ++ L2) j 0 := fun {i j} c hi => by
    obtain ⟨o1, o', a1, a2, a3⟩ := g2 (j - h) i hi
    refine ⟨o', by rw [List.getElem?_append_right (by omega), ← l1]; exact a2, ?_⟩
    cases a3 <;> simp [Ob.lim]
  have val : ∀ {x y : AV}, VR heap h K x y → ∀ {v : Value}, Val (Kn heap) ρ w Z Y x v → Val (Kn (L1 ++ L2)) ρ' w Z Y y v := by
    have pw : ∀ {l l' : List AV} {us : List Value}, l.length = l'.length → l.length = us.length → (∀ (j : Nat) x y, l[j]? = some x → l'[j]? = some y → ∀ {v : Value}, Val (Kn heap) ρ w Z Y x v → Val (Kn (L1 ++ L2)) ρ' w Z Y y v) → (∀ (j : Nat) x u, l[j]? = some x → us[j]? = some u → Val (Kn heap) ρ w Z Y x u) →
        ∀ (j : Nat) y u, l'[j]? = some y → us[j]? = some u → Val (Kn (L1 ++ L2)) ρ' w Z Y y u := by
      intro l l' us e1 e2 ih hv j y u hj hu
      have hlt := get_lt hj
      rw [← e1] at hlt
      exact ih j _ y (List.getElem?_eq_getElem hlt) hj (hv j _ u (List.getElem?_eq_getElem hlt) hu)
    intro x y hxy
    induction hxy with
    | any x => intro v _; exact .any v
    | t he => intro v hv; subst he; cases hv with | t h => exact .t h
    | nl => intro v hv; cases hv with | nl a => exact .nl a
    | @old i k n n' hi hn =>
      intro v hv
      subst hn
      have c : i < h := Nat.le_of_ble_eq_true hi
      cases hv with
      | sl hk hc h0 => rw [← ρl c] at hc h0 ⊢; exact .sl (knl c hk) hc h0
    | @new i j k n n' E s els hj hq hi hn =>
      intro v hv
      subst hn
      have c : h ≤ j := Nat.le_of_ble_eq_true hj
      cases hv with
      | sl hk hc h0 =>
        have e : ρ' j 0 = ρ i k := ρg c hq hi 0
        rw [← e] at hc h0 ⊢
        exact .sl (kng c hq) hc h0
    | @optr i off hi =>
      intro v hv
      have c : i < h := Nat.le_of_ble_eq_true hi
      cases hv with
      | ptr hk ha => exact .ptr (knl c hk) (by rw [ρl c]; exact ha)
    | @nptr i j off t cs hj hq hi =>
      intro v hv
      have c : h ≤ j := Nat.le_of_ble_eq_true hj
      cases hv with
      | ptr hk ha => exact .ptr (kng c hq) (by rw [ρg c hq hi 0]; exact ha)
    | agg e1 hp ih => intro v hv; cases hv with | agg a1 a2 a3 => exact .agg (by rw [← e1]; exact a1) a2 (pw e1 a1 ih a3)
    | tup e1 hp ih => intro v hv; cases hv with | tup a1 a3 => exact .tup (by rw [← e1]; exact a1) (pw e1 a1 ih a3)
  have blk : ∀ (j : Nat) (o' o : Ob), (L1 ++ L2)[j]? = some o' → heap[f j]? = some o → VO heap h K (decide (h ≤ j)) o o' → (h ≤ j → K[j - h]? = some (f j)) → o'.blk ρ' j = o.blk ρ (f j) := fun j o' o _ ho hv hK' => by
    by_cases c : j < h
    · have ef : f j = j := by simp only [f, if_pos c]
      rw [ef] at ho ⊢
      rw [show decide (h ≤ j) = false by simp; omega] at hv
      cases hv with
      | row => simp only [Ob.blk, ρl c]
      | box => simp only [Ob.blk, ρl c]
      | gone => rfl
    · have hq := hK' (by omega)
      rw [show decide (h ≤ j) = true by simp; omega] at hv
      cases hv with
      | rset => simp only [Ob.blk, ρg (by omega) hq ho]; rfl
      | box => simp only [Ob.blk, ρg (by omega) hq ho]; rfl
  have inj : ∀ i j, i < (L1 ++ L2).length → j < (L1 ++ L2).length → f i = f j → i = j := fun i j hi hj hf => by
    simp only [List.length_append] at hi hj
    have inK : ∀ q, h ≤ q → q < L1.length + L2.length → K[q - h]? = some (f q) := fun q c1 c2 => by
      have hlt : q - h < K.length := by omega
      simp only [f, if_neg (show ¬ q < h by omega), List.getD_eq_getElem?_getD, List.getElem?_eq_getElem hlt, Option.getD_some]
    by_cases ci : i < h <;> by_cases cj : j < h
    · simpa only [f, if_pos ci, if_pos cj] using hf
    · have := hK1 _ (List.mem_of_getElem? (inK j (by omega) hj))
      rw [← hf] at this
      simp only [f, if_pos ci] at this; omega
    · have := hK1 _ (List.mem_of_getElem? (inK i (by omega) hi))
      rw [hf] at this
      simp only [f, if_pos cj] at this; omega
    · have e1 := inK i (by omega) hi
      have e2 := inK j (by omega) hj
      rw [← hf] at e2
      have key : ∀ p q, p < q → K[p]? = some (f i) → K[q]? = some (f i) → False := fun p q hpq h1 h2 => by
        have a1 := get_lt h1
        have a2 := get_lt h2
        rw [List.getElem?_eq_getElem a1] at h1
        rw [List.getElem?_eq_getElem a2] at h2
        exact List.pairwise_iff_getElem.1 hK p q a1 a2 hpq ((Option.some.inj h1).trans (Option.some.inj h2).symm)
      rcases Nat.lt_trichotomy (i - h) (j - h) with c | c | c
      · exact (key _ _ c e1 e2).elim
      · omega
      · exact (key _ _ c e2 e1).elim
  refine ⟨ρ', ⟨⟨fun j o' hj => ?_, fun i j o o' b hi hj hp hq => ?_, fun j o' b hj hp => ?_, hk.rep.zy, hk.rep.ylt⟩, fun j o' b hj hp => ?_, hk.zone, hk.z0, hk.y0, fun i k hik => ?_, hk.os, hk.tape, hk.output, hk.size, hk.keep⟩, fun x y v hxy hv => val hxy hv⟩
  · obtain ⟨o, a1, a2, a3⟩ := get j o' hj
    have ho := hk.rep.obs _ o a1
    by_cases c : j < h
    · have ef : f j = j := by simp only [f, if_pos c]
      rw [ef] at ho
      rw [show decide (h ≤ j) = false by simp; omega] at a2
      cases a2 with
      | row he => subst he; obtain ⟨b1, xs, b2, b3⟩ := ho; exact ⟨by rw [ρl c]; exact b1, xs, b2, by rw [ρl c]; exact b3⟩
      | box hl =>
        obtain ⟨b, us, b1, b2, b3, b4⟩ := ho
        obtain ⟨c1, c2⟩ := hl.get
        refine ⟨b, us, by rw [ρl c]; exact b1, b2, ⟨by rw [← c1]; exact b3.len, fun q y u hq hu => ?_⟩, b4⟩
        have hlt := get_lt hq
        rw [← c1] at hlt
        exact val (c2 q _ y (List.getElem?_eq_getElem hlt) hq) (b3.at_ q _ u (List.getElem?_eq_getElem hlt) hu)
      | gone => trivial
    · have hq := a3 (by omega)
      rw [show decide (h ≤ j) = true by simp; omega] at a2
      cases a2 with
      | rset he =>
        subst he
        obtain ⟨b1, xs, b2, b3⟩ := ho
        have e := ρg (by omega) hq a1 0
        exact ⟨by rw [e]; exact b1, xs, b2, by rw [e]; exact b3⟩
      | box hl =>
        obtain ⟨b, us, b1, b2, b3, b4⟩ := ho
        obtain ⟨c1, c2⟩ := hl.get
        refine ⟨b, us, by rw [ρg (by omega) hq a1]; exact b1, b2, ⟨by rw [← c1]; exact b3.len, fun q y u hq hu => ?_⟩, b4⟩
        have hlt := get_lt hq
        rw [← c1] at hlt
        exact val (c2 q _ y (List.getElem?_eq_getElem hlt) hq) (b3.at_ q _ u (List.getElem?_eq_getElem hlt) hu)
  · obtain ⟨p, a1, a2, a3⟩ := get i o hi
    obtain ⟨q, b1, b2, b3⟩ := get j o' hj
    rw [blk i o p hi a1 a2 a3] at hp
    rw [blk j o' q hj b1 b2 b3] at hq
    exact inj i j (get_lt hi) (get_lt hj) (hk.rep.apart _ _ p q b a1 b1 hp hq)
  · obtain ⟨p, a1, a2, a3⟩ := get j o' hj
    rw [blk j o' p hj a1 a2 a3] at hp
    exact hk.rep.own _ p b a1 hp
  · obtain ⟨p, a1, a2, a3⟩ := get j o' hj
    rw [blk j o' p hj a1 a2 a3] at hp
    exact hk.dom _ p b a1 hp
  · obtain ⟨q1, q2⟩ := hk.rho i k hik
    have hi : i < e.H.length := by obtain ⟨o, ho, _⟩ := hik; exact get_lt ho
    exact ⟨knl (by omega) q1, by rw [ρl (by omega)]; exact q2⟩
theorem Fin.mkv {fn : Func} {r0 : AV} {L0 : List Ob} {rs : List ResultVar} (hrs : fn.results = rs.toArray) {xs : List AV} (hx : ResL P n T heap rs xs) (K : List Nat) (hK : K.Nodup) (hK1 : (K.all fun i => Nat.ble n.h i) = true)
    (h1 : VH heap n.h K false (List.range n.h) (L0.take n.h)) (h2 : VH heap n.h K true K (L0.drop n.h)) (hr : VR heap n.h K (resV xs) r0) : Fin P fn (fun r L => r = r0 ∧ L = L0) n T heap := by
  rintro e a w ⟨ρ, Z, Y, hR⟩
  obtain ⟨vs, q1, q2⟩ := hx.run hR
  obtain ⟨ρ', k1, k2⟩ := Ok.fin (heap := heap) hR.ok (h := n.h) hR.hl hK (fun i hi => Nat.le_of_ble_eq_true (List.all_eq_true.1 hK1 i hi)) h1 h2
  rw [List.take_append_drop] at k1 k2
  have hres : (results fn a.tmps).run P w = .ok (match vs with | [v] => v | l => .tuple l.toArray) w := by
    rw [results_eq, hrs]
    have hm : ((rs.toArray).mapM (resOf a.tmps)).run P w = .ok vs.toArray w := by
      rw [List.mapM_toArray]
      simp only [map_eq_pure_bind, Sem.run_bind, q1, Result.andThen_ok, Sem.run_pure]
    simp only [Sem.run_bind, hm, Result.andThen_ok]
    match vs with
    | [] => rfl
    | [v] => rfl
    | v :: u :: l => simp
  refine ⟨_, _, _, ρ', Z, Y, hres, ⟨rfl, rfl⟩, k1, k2 _ _ _ hr ?_⟩
  match xs, vs, q2 with
  | [], [], _ => exact .tup (us := []) rfl (fun j x u hj => by simp at hj)
  | [x], [v], h2 => exact h2.at_ 0 x v rfl rfl
  | x :: y :: l, v :: u :: m, h2 => exact .tup h2.len h2.at_
  | [], _ :: _, h2 => have := h2.len; simp at this
  | [_], [], h2 => have := h2.len; simp at this
  | [_], _ :: _ :: _, h2 => have := h2.len; simp at this
  | _ :: _ :: _, [], h2 => have := h2.len; simp at this
  | _ :: _ :: _, [_], h2 => have := h2.len; simp at this
end
end Go.Proofs.Ytmljglphegeilaa

namespace Go.Proofs.Ytmljglphegeilaa
set_option linter.unusedVariables false
set_option linter.unusedSimpArgs false
set_option linter.unnecessarySimpa false
open Go.RowKit
theorem PassL.append {heap : List Ob} {sel : List Nat} {a a' b b' : List AV} (h : PassL heap sel a a') (k : PassL heap sel b b') : PassL heap sel (a ++ b) (a' ++ b') := by
  induction h with
  | nil => exact k
  | cons h _ ih => exact .cons h ih
section
variable {P : Program} {ops : Array Oper} {Q : QS} {rest : List Oper} {o : Oper} {n : Fr} {T : Nat → AV} {heap : List Ob} {d : Nat}
end
end Go.Proofs.Ytmljglphegeilaa

namespace Go.Proofs.Ytmljglphegeilaa
set_option linter.unusedVariables false
set_option linter.unusedSimpArgs false
set_option linter.unnecessarySimpa false
open Go.RowKit
end Go.Proofs.Ytmljglphegeilaa

namespace Go.Proofs.Ytmljglphegeilaa
set_option linter.unusedVariables false
set_option linter.unusedSimpArgs false
set_option linter.unnecessarySimpa false
open Go.RowKit
section
variable {P : Program} {ops : Array Oper} {Q : QS} {rest : List Oper} {o : Oper} {n : Fr} {T : Nat → AV} {heap : List Ob} {d : Nat}
theorem A_append_nlsub (hw : wantedA n T ops o = true) (hd : o.dst = some d) (s x : Operand) (t : TypeId) (ho : o.op = .call { callee := .builtin .append, args := #[s, x], argTypes := #[t, t] })
    {e : TypeId} (ht : P.underlying t = some (.slice e)) {z : Value} {size bytes : Nat} (hI : (P.info? e).map (fun i => (i.zero, i.size, i.bytes)) = some (some z, size, bytes)) (hzs : z.cells.size = size)
    (hs : evA n T s = .nl) {i k off m : Nat} {E : TypeId} {els : List (List Tr)} (hx : evA n T x = .sub i k off m) (hi : heap[i]? = some (.row k E size els)) (hm : off + m = els.length) (b1 : m ≤ maxLen) (b2 : m * bytes ≤ 140737488355328) {els' : List (List Tr)} (he : els.drop off = els')
    {heap' : List Ob} {N : Nat} (hat : AtL heap N [.row 0 e size els'] heap') (k' : AL P ops Q rest n (pu T d (.sl N 0 m)) heap') : AL P ops Q (o :: rest) n T heap := by
  subst he
  have hr : Rd heap size (evA n T x) ((els.drop off).take m) := by rw [hx]; exact .sub hi (by omega)
  have e1 : (els.drop off).take m = els.drop off := List.take_of_length_le (by rw [List.length_drop]; omega)
  rw [e1] at hr
  have e2 : (els.drop off).length = m := by rw [List.length_drop]; omega
  exact A_append_nl hw hd s x t ho ht hI hzs hs hr (by rw [e2]; exact b1) (by rw [e2]; exact b2) rfl hat e2 k'
end
end Go.Proofs.Ytmljglphegeilaa

namespace Go.Proofs.Ytmljglphegeilaa
set_option linter.unusedVariables false
set_option linter.unusedSimpArgs false
set_option linter.unnecessarySimpa false
open Go.RowKit
def idxK : List Nat → Nat → Option Nat
  | [], _ => none
  | a :: K, i => bif Nat.beq a i then some 0 else (idxK K i).map (· + 1)
theorem idxK_some : ∀ {K : List Nat} {i j : Nat}, idxK K i = some j → K[j]? = some i
  | [], i, j, h => by cases h
  | a :: K, i, j, h => by
    unfold idxK at h
    cases hb : Nat.beq a i with
    | true => rw [hb] at h; cases h; rw [Nat.eq_of_beq_eq_true hb]; rfl
    | false =>
      rw [hb] at h
      simp only [cond_false, Option.map_eq_some_iff] at h
      obtain ⟨k, hk, rfl⟩ := h
      exact (List.getElem?_cons_succ).trans (idxK_some (K := K) hk)
section
variable {P : Program} {Q : QS} {n : Fr} {T : Nat → AV} {heap : List Ob} {d : Nat}
theorem Wk.cut3 {T' : Nat → AV} {heap' : List Ob} (K : List Nat) (hn : K.Nodup) (hlt : K.all (fun i => Nat.blt i heap.length) = true) (hb : (List.range n.h).all (fun i => K[i]? == some i) = true) (hh : (K.map fun i => upP (idxK K) (heap.getD i .hole)) = heap') (hT : Fk (idxK K) T T') : Wk n T heap T' heap' := by
  subst hh
  rintro e a w ⟨ρ, Z, Y, hR⟩
  have hlen : (K.map fun i => upP (idxK K) (heap.getD i .hole)).length = K.length := by simp
  have hK : ∀ (j : Nat), j < K.length → ∃ i, K[j]? = some i ∧ i < heap.length ∧ K.getD j 0 = i := fun j hj => by
    refine ⟨K[j], List.getElem?_eq_getElem hj, ?_, ?_⟩
    · have := List.all_eq_true.1 hlt K[j] (List.getElem_mem hj)
      exact Nat.le_of_ble_eq_true this
    · rw [List.getD_eq_getElem?_getD, List.getElem?_eq_getElem hj]; rfl
  obtain ⟨ρ', k1, k2⟩ := Ok.sel2 (heap := heap) hR.ok (heap' := K.map fun i => upP (idxK K) (heap.getD i .hole)) (fun j => K.getD j 0) (idxK K) (fun i j hi hj h => by
    rw [hlen] at hi hj
    obtain ⟨a1, ha, _, e1⟩ := hK i hi
    obtain ⟨b1, hb1, _, e2⟩ := hK j hj
    have h : K.getD i 0 = K.getD j 0 := h
    rw [e1, e2] at h
    subst h
    exact (List.getElem?_inj hi hn).1 (ha.trans hb1.symm)) (fun j o' hj => by
    rw [List.getElem?_map] at hj
    cases hx : K[j]? with
    | none => rw [hx] at hj; cases hj
    | some i =>
      rw [hx] at hj; cases hj
      obtain ⟨i', h1, h2, h3⟩ := hK j (get_lt hx)
      rw [hx] at h1; cases h1
      exact ⟨heap.getD i .hole, by rw [h3, List.getD_eq_getElem?_getD, List.getElem?_eq_getElem h2]; rfl, rfl⟩) (fun i j hi hj => by
    have h1 := idxK_some hj
    obtain ⟨i', h2, _, h3⟩ := hK j (get_lt h1)
    rw [h1] at h2; cases h2
    exact ⟨h3, by rw [hlen]; exact get_lt h1⟩) (fun i h1 h2 => by
    have h3 : e.H.length ≤ n.h := hR.hl
    have h4 := List.all_eq_true.1 hb i (List.mem_range.2 (by omega))
    have h5 : K[i]? = some i := by simpa using h4
    obtain ⟨i', h6, _, h7⟩ := hK i (get_lt h5)
    rw [h5] at h6; cases h6
    exact ⟨by rw [hlen]; exact get_lt h5, h7⟩)
  refine ⟨ρ', Z, Y, k1, hR.defers, hR.n, hR.hl, fun t v ht => ?_⟩
  rcases hT t with h | h
  · show Val _ _ _ _ _ (T' t) _
    rw [h]; exact .any _
  · show Val _ _ _ _ _ (T' t) _
    rw [h]; exact k2 _ _ (hR.at_ t v ht)
end
theorem Wk.cq3 {n : Fr} {T T' : Nat → AV} {heap heap' : List Ob} (K : List Nat) (hn : K.Nodup := by first | decide | fail) (hlt : K.all (fun i => Nat.blt i heap.length) = true := by first | rfl | fail) (hb : (List.range n.h).all (fun i => K[i]? == some i) = true := by first | rfl | fail) (hh : (K.map fun i => upP (idxK K) (heap.getD i .hole)) = heap' := by first | exact rfl | fail) (hT : Fk (idxK K) T T' := by ((repeat' (first | exact Fk.nil | refine Fk.pu ?_ ?_ | rfl | exact hup)); (first | done | fail))) : Wk n T heap T' heap' := Wk.cut3 K hn hlt hb hh hT
end Go.Proofs.Ytmljglphegeilaa

namespace Go.Proofs.Ytmljglphegeilaa
set_option linter.unusedVariables false
set_option linter.unusedSimpArgs false
set_option linter.unnecessarySimpa false
open Go.RowKit
inductive NzR : AV → AV → Prop
  | nlt : NzR .nl (.t (.lst []))
  | same (x : AV) : NzR x x
  | agg {l l' : List AV} (h1 : l.length = l'.length) (h : ∀ (j : Nat) x y, l[j]? = some x → l'[j]? = some y → NzR x y) : NzR (.agg l) (.agg l')
inductive NzL : List AV → List AV → Prop
  | nil : NzL [] []
  | cons {x y : AV} {l l' : List AV} (h : NzR x y) (g : NzL l l') : NzL (x :: l) (y :: l')
theorem NzL.get {l l' : List AV} (h : NzL l l') : l.length = l'.length ∧ ∀ (j : Nat) x y, l[j]? = some x → l'[j]? = some y → NzR x y := by
  induction h with
  | nil => exact ⟨rfl, fun j x y h => by simp at h⟩
  | cons h k ih =>
    refine ⟨by simp [ih.1], fun j x y hj hy => ?_⟩
    cases j with
    | zero => simp at hj hy; subst hj hy; exact h
    | succ j => exact ih.2 j x y (by simpa using hj) (by simpa using hy)
theorem NzR.aggL {l l' : List AV} (h : NzL l l') : NzR (.agg l) (.agg l') := .agg h.get.1 h.get.2
theorem NzR.val {Kn : Nat → Nat → Prop} {ρ : Rho} {w : World} {Z Y : Nat → Prop} {x y : AV} (h : NzR x y) : ∀ {v : Value}, Val Kn ρ w Z Y x v → Val Kn ρ w Z Y y v := by
  induction h with
  | nlt =>
    intro v hv
    cases hv with
    | nl sa => exact .t (.lst (size := 0) (xs := []) ⟨Nat.le_refl _, Nat.zero_le _, fun _ => ⟨rfl, rfl⟩, by simp, fun j u hj => by simp at hj⟩ (fun h => absurd rfl h) rfl (fun _ h => by simp at h) (fun i cs j x u hi => by simp at hi))
  | same x => intro v hv; exact hv
  | agg h1 h ih =>
    intro v hv
    cases hv with
    | agg e1 ho hu =>
      refine .agg (by rw [← h1]; exact e1) ho (fun j y u hj hu' => ?_)
      have hlt := get_lt hj
      rw [← h1] at hlt
      exact ih j _ y (List.getElem?_eq_getElem hlt) hj (hu j _ u (List.getElem?_eq_getElem hlt) hu')
end Go.Proofs.Ytmljglphegeilaa

namespace Go.Proofs.Ytmljglphegeilaa
set_option linter.unusedVariables false
set_option linter.unusedSimpArgs false
set_option linter.unnecessarySimpa false
open Go.RowKit
theorem Ok.frz {e : Env} {heap : List Ob} {w : World} {ρ : Rho} {Z Y : Nat → Prop} (ok : Ok e heap w ρ Z Y) {i k : Nat} {E : TypeId} {s : Nat} {els : List (List Tr)} (hi : heap[i]? = some (.row k E s els)) :
    ∃ Z' Y', Ok e (heap.set i (.gone k)) w ρ Z' Y' ∧ (∀ x v, Val (Kn heap) ρ w Z Y x v → Val (Kn (heap.set i (.gone k))) ρ w Z' Y' x v) ∧ ∀ x y, FzR i k els x y → ∀ v, Val (Kn heap) ρ w Z Y x v → Val (Kn (heap.set i (.gone k))) ρ w Z' Y' y v := by
  have hrep := ok.rep
  obtain ⟨h1, xs, h2, h3, h4⟩ := hrep.row hi
  have hz : ∀ b, Z b → (Z b ∨ (Ob.row k E s els).blk ρ i = some b) ∧ w.heap[b]? = w.heap[b]? := fun b hb => ⟨.inl hb, rfl⟩
  have hy : ∀ b, Y b → (Y b ∨ (Ob.row k E s els).blk ρ i = some b) ∧ w.heap[b]? = w.heap[b]? := fun b hb => ⟨.inl hb, rfl⟩
  have hm : ∀ x v, Val (Kn heap) ρ w Z Y x v → Val (Kn (heap.set i (.gone k))) ρ w (fun b => Z b ∨ (Ob.row k E s els).blk ρ i = some b) (fun b => Y b ∨ (Ob.row k E s els).blk ρ i = some b) x v := fun x v hv =>
    hv.mono (fun j q hj => ⟨hj.set hi (Nat.le_refl _), rfl⟩) hz hy
  have hok : Ok e (heap.set i (.gone k)) w ρ (fun b => Z b ∨ (Ob.row k E s els).blk ρ i = some b) (fun b => Y b ∨ (Ob.row k E s els).blk ρ i = some b) := by
    refine ok.mono (hrep.freeze hi) (fun j q hj => ⟨hj.set hi (Nat.le_refl _), rfl⟩) ⟨rfl, rfl, rfl⟩ (Nat.le_refl _) (fun j p b hj hp => ?_) (fun b hb => .inl hb) (fun b hb => .inl hb) (fun b hb => hb.elim .inl fun hb => .inr (ok.dom i _ b hi hb)) (fun _ _ _ => rfl)
    rw [List.getElem?_set] at hj
    split at hj
    · split at hj <;> cases hj
      cases hp
    · exact ok.dom j p b hj hp
  have hblk : xs ≠ [] → Z (adr (ρ i k).a).block ∨ (Ob.row k E s els).blk ρ i = some (adr (ρ i k).a).block := fun hne => .inr (by
    rcases h3 with ⟨_, _, e⟩ | ⟨hc, hh⟩
    · exact absurd e hne
    · simp only [Ob.blk]
      rw [if_neg (by omega)]
      cases ha : (ρ i k).a with
      | some b => rfl
      | none =>
        rw [ha] at hh
        rcases hh.2 with ⟨e, _⟩ | ⟨g, cap, cur, e, _⟩
        · simp only [Value.slice.injEq] at e; omega
        · simp at e)
  have hfz : ∀ m, m ≤ els.length → Frz w (fun b => Z b ∨ (Ob.row k E s els).blk ρ i = some b) (.lst (els.take m)) (.slice (ρ i k).a m (ρ i k).c) := fun m hm =>
    frz_take h4 (h2.mono fun _ _ h => Frz.mono hz h) hblk hm
  have hgz : ∀ (off m : Nat) (a : Option Addr) (c : Nat), m ≤ c → c ≤ maxLen → (a = .none → m = 0 ∧ c = 0) → (m ≠ 0 → a = some ((adr (ρ i k).a).add (off * (ρ i k).s))) → off + m ≤ els.length → Frz w (fun b => Z b ∨ (Ob.row k E s els).blk ρ i = some b) (.lst ((els.drop off).take m)) (.slice a m c) := by
    intro off m a c hn' hmx h0 ha hle
    have e : ((els.drop off).take m).length = m := by rw [List.length_take, List.length_drop]; omega
    have hm0 : ∀ {q : List Value}, q = (xs.drop (off * s)).take (m * s) → q ≠ [] → m ≠ 0 := fun e1 hne e2 => hne (by rw [e1, e2]; simp)
    have hE := (((h2.mono fun _ _ h => Frz.mono hz h).drop off).take m)
    refine .shut (xs := (xs.drop (off * s)).take (m * s)) (size := s) e ⟨hn', hmx, h0, ?_, fun j u hj => ?_⟩ (fun hne => ?_) hE
    · have := hE.len
      rw [e] at this; exact this
    · have hne := hm0 rfl (fun e => by rw [e] at hj; simp at hj)
      rw [List.getElem?_take] at hj
      split at hj
      · rw [ha hne, List.getElem?_drop] at *
        show w.cell? (Addr.add ((adr (ρ i k).a).add _) j) = _
        rw [add_add, h1]
        exact h4.cells _ u hj
      · cases hj
    · have hne' := hm0 rfl hne
      rw [ha hne']
      show Z (Addr.add _ _).block ∨ _ = some (Addr.add _ _).block
      rw [add_block]
      exact hblk (fun e => by rw [e] at hne; simp at hne)
  exact ⟨_, _, hok, hm, fun x y hr v hv => FzR.val hfz hgz hr (hm _ _ hv)⟩
theorem Val.tup_map {Kn Kn' : Nat → Nat → Prop} {ρ ρ' : Rho} {w : World} {Z Y Z' Y' : Nat → Prop} {l l' : List AV} {v : Value} (hl : l.length = l'.length) (h : ∀ (j : Nat) x y, l[j]? = some x → l'[j]? = some y → ∀ u, Val Kn ρ w Z Y x u → Val Kn' ρ' w Z' Y' y u) (hv : Val Kn ρ w Z Y (.tup l) v) : Val Kn' ρ' w Z' Y' (.tup l') v := by
  cases hv with
  | tup e1 hu =>
    refine .tup (by rw [← hl]; exact e1) (fun j y u hj hu' => ?_)
    have hlt := get_lt hj
    rw [← hl] at hlt
    exact h j _ y (List.getElem?_eq_getElem hlt) hj u (hu j _ u (List.getElem?_eq_getElem hlt) hu')
theorem C.mono' {P : Program} {f : FuncId} {args : List AV} {H : List Ob} {R R' : AV → List Ob → Prop} (h : C P f args H R)
    (k : ∀ (e : Env) (w : World) (ρ : Rho) (Z Y : Nat → Prop) r heap, e.H = H → R r heap → Ok e heap w ρ Z Y → ∃ r' heap' ρ' Z' Y', R' r' heap' ∧ Ok e heap' w ρ' Z' Y' ∧ ∀ v, Val (Kn heap) ρ w Z Y r v → Val (Kn heap') ρ' w Z' Y' r' v) : C P f args H R' := fun e vs h1 h2 h3 h4 => by
  refine (h e vs h1 h2 h3 h4).mono fun en w' hq => ?_
  obtain ⟨v, r, heap, ρ, Z, Y, he, hr, ho, hv⟩ := hq
  obtain ⟨r', heap', ρ', Z', Y', k1, k2, k3⟩ := k e w' ρ Z Y r heap h1 hr ho
  exact ⟨v, r', heap', ρ', Z', Y', he, k1, k2, k3 v hv⟩
theorem Cd.frz {P : Program} {f : FuncId} {args : List AV} {l l' : List AV} {L : List Ob} (h : Cd P f args (.tup l) L) (i : Nat) {k : Nat} {E : TypeId} {s : Nat} {els : List (List Tr)} (hi : L[i]? = some (.row k E s els)) (hr : FzL i k els l l') {L' : List Ob} (hL : L.set i (.gone k) = L') : Cd P f args (.tup l') L' := by
  subst hL
  refine C.mono' h fun e w ρ Z Y r heap _ hR ok => ?_
  obtain ⟨rfl, rfl⟩ := hR
  obtain ⟨Z', Y', k1, _, k3⟩ := ok.frz hi
  exact ⟨_, _, ρ, Z', Y', ⟨rfl, rfl⟩, k1, fun v hv => Val.tup_map hr.get.1 (fun j x y hx hy u hu => k3 x y (hr.get.2 j x y hx hy) u hu) hv⟩
theorem Cd.frz1 {P : Program} {f : FuncId} {args : List AV} {r r' : AV} {L : List Ob} (h : Cd P f args r L) (i : Nat) {k : Nat} {E : TypeId} {s : Nat} {els : List (List Tr)} (hi : L[i]? = some (.row k E s els)) (hr : FzR i k els r r') {L' : List Ob} (hL : L.set i (.gone k) = L') : Cd P f args r' L' := by
  subst hL
  refine C.mono' h fun e w ρ Z Y r heap _ hR ok => ?_
  obtain ⟨rfl, rfl⟩ := hR
  obtain ⟨Z', Y', k1, _, k3⟩ := ok.frz hi
  exact ⟨_, _, ρ, Z', Y', ⟨rfl, rfl⟩, k1, fun v hv => k3 _ _ hr v hv⟩
theorem Cd.drop {P : Program} {f : FuncId} {args : List AV} {r r' : AV} {L : List Ob} (h : Cd P f args r L) (hr : upA (fun _ => none) r = r') : Cd P f args r' [] := by
  subst hr
  refine C.mono' h fun e w ρ Z Y r heap hH hR ok => ?_
  obtain ⟨rfl, rfl⟩ := hR
  obtain ⟨ρ', k1, k2⟩ := ok.sel (heap' := []) (fun i => i) (fun _ => none) (fun i j hi => by simp at hi) (fun j o' hj => by simp at hj) (fun i j _ hj => by cases hj) (fun i hi => by rw [hH] at hi; simp at hi)
  exact ⟨_, _, ρ', Z, Y, ⟨rfl, rfl⟩, k1, fun v hv => k2 _ v hv⟩
end Go.Proofs.Ytmljglphegeilaa

namespace Go.Proofs.Ytmljglphegeilaa
set_option linter.unusedVariables false
set_option linter.unusedSimpArgs false
set_option linter.unnecessarySimpa false
open Go.RowKit
section
variable {P : Program} {n : Fr} {T : Nat → AV} {heap : List Ob}
end
end Go.Proofs.Ytmljglphegeilaa

namespace Go.Proofs.Ytmljglphegeilaa
set_option linter.unusedVariables false
set_option linter.unusedSimpArgs false
set_option linter.unnecessarySimpa false
open Go.RowKit
section
variable {P : Program} {ops : Array Oper} {rest : List Oper} {o : Oper} {n : Fr} {T : Nat → AV} {heap : List Ob} {d : Nat}
end
end Go.Proofs.Ytmljglphegeilaa

namespace Go.Proofs.Ytmljglphegeilaa
set_option linter.unusedVariables false
set_option linter.unusedSimpArgs false
set_option linter.unnecessarySimpa false
open Go.RowKit
theorem qN {P : Prop} (h : P := by (try simp only [List.take_zero, List.take_succ_cons, List.drop_zero, List.drop_succ_cons, List.nil_append, List.cons_append, List.append_nil, List.length_cons, List.length_nil, List.set_cons_zero, List.set_cons_succ, List.map_cons, List.map_nil, List.take_nil, List.drop_nil, Nat.zero_add, Nat.add_zero, Nat.reduceAdd, Nat.reduceSub]); rfl) : P := h
theorem qL {P : Prop} (h : P := by (try simp only [List.length_cons, List.length_nil, Nat.zero_add, Nat.reduceAdd]); rfl) : P := h
theorem qS {P : Prop} (h : P := by (try simp only [List.length_map, List.length_cons, List.length_nil, Nat.zero_add, Nat.add_zero, Nat.reduceAdd]); rfl) : P := h
theorem qB {P : Prop} (h : P := by (try simp only [List.length_map, List.length_cons, List.length_nil, List.length_append, maxLen]); omega) : P := h
theorem qR {P : Prop} (h : P := by simp only [List.replicate_succ, List.replicate_zero, List.cons_append, List.nil_append]; rfl) : P := h
theorem qM {P : Prop} (h : P := by simp only [List.length_cons, List.length_nil, Nat.zero_add, Nat.reduceAdd]; rfl) : P := h
theorem wi {n : Int} (h : -9223372036854775808 ≤ n ∧ n ≤ 9223372036854775807 := by first | omega | fail) : IntKind.i64.wrap n = n := IntWalk.i64_in n h
theorem wu {n : Int} (h : 0 ≤ n ∧ n ≤ 18446744073709551615 := by first | omega | fail) : IntKind.u64.wrap n = n := IntWalk.u64_in n h
section
variable {P : Program} {Q : QS} {n : Fr} {T : Nat → AV} {heap : List Ob}
theorem kct {c : Operand} {x y : Code} (hc : evA n T c = .t (.v (.bool true))) (k : AW P x Q n T heap) : AW P (.cond c x y) Q n T heap := AW.cond hc (fun _ => k) (fun h => by cases h)
theorem kcf {c : Operand} {x y : Code} (hc : evA n T c = .t (.v (.bool false))) (k : AW P y Q n T heap) : AW P (.cond c x y) Q n T heap := AW.cond hc (fun h => by cases h) (fun _ => k)
theorem kcp {c : Operand} {x y : Code} {p : Prop} {_ : Decidable p} (hc : evA n T c = .t (.v (.bool (decide p)))) (ht : p → AW P x Q n T heap) (hf : ¬ p → AW P y Q n T heap) : AW P (.cond c x y) Q n T heap := AW.cond hc (fun h => ht (of_decide_eq_true h)) (fun h => hf (of_decide_eq_false h))
theorem kcn {c : Operand} {x y : Code} {p : Prop} {_ : Decidable p} (hc : evA n T c = .t (.v (.bool (!decide p)))) (ht : ¬ p → AW P x Q n T heap) (hf : p → AW P y Q n T heap) : AW P (.cond c x y) Q n T heap :=
  AW.cond hc (fun h => ht (fun k => by rw [decide_eq_true k] at h; cases h)) (fun h => hf (by
    by_cases k : p
    · exact k
    · rw [decide_eq_false k] at h; cases h))
theorem kcb {c : Operand} {x y : Code} {b : Bool} (hc : evA n T c = .t (.v (.bool (!b)))) (ht : b = false → AW P x Q n T heap) (hf : b = true → AW P y Q n T heap) : AW P (.cond c x y) Q n T heap := AW.cond hc (fun h => ht (by simpa using h)) (fun h => hf (by simpa using h))
theorem kcc {c : Operand} {x y : Code} {b : Bool} (hc : evA n T c = .t (.v (.bool b))) (ht : b = true → AW P x Q n T heap) (hf : b = false → AW P y Q n T heap) : AW P (.cond c x y) Q n T heap := AW.cond hc ht hf
abbrev wk0 := @AW.seq
abbrev wk1 := @AW.block
abbrev wk2 := @thenQ_n
abbrev wk3 := @thenQ_r
abbrev wk4 := @thenQ_e
abbrev wk5 := @blockQ_n
abbrev wk6 := @blockQ_r
abbrev wk7 := @blockQ_e0
abbrev wk8 := @blockQ_e1
abbrev wk9 := @retQ_r
abbrev wka := @retQ_n
abbrev wkb := @AW.ret
abbrev wkc := @AW.exit
abbrev wkd := @AW.skip
theorem Fin.q {fn : Func} {r0 : AV} {L0 : List Ob} {rs : List ResultVar} (hrs : fn.results = rs.toArray) {xs : List AV} (hx : ResL P n T heap rs xs) (K : List Nat) (hK : K.Nodup := by first | decide | fail) (hK1 : (K.all fun i => Nat.ble n.h i) = true := by first | exact rfl | fail)
    (h1 : VH heap n.h K false (List.range n.h) (L0.take n.h) := by ((repeat' (first | exact .nil | refine .cons rfl ?_ ?_ | refine .cons ?_ ?_ | refine .row ?_ | refine .rset ?_ | refine .box ?_ | exact .gone | refine .aggL ?_ | refine .tupL ?_ | refine .old rfl ?_ | refine .new rfl rfl rfl ?_ | exact .nl | exact .optr rfl | exact .nptr rfl rfl rfl | refine .t ?_ | exact .any _ | rfl)); (first | done | fail))) (h2 : VH heap n.h K true K (L0.drop n.h) := by ((repeat' (first | exact .nil | refine .cons rfl ?_ ?_ | refine .cons ?_ ?_ | refine .row ?_ | refine .rset ?_ | refine .box ?_ | exact .gone | refine .aggL ?_ | refine .tupL ?_ | refine .old rfl ?_ | refine .new rfl rfl rfl ?_ | exact .nl | exact .optr rfl | exact .nptr rfl rfl rfl | refine .t ?_ | exact .any _ | rfl)); (first | done | fail))) (hr : VR heap n.h K (resV xs) r0 := by ((repeat' (first | exact .nil | refine .cons rfl ?_ ?_ | refine .cons ?_ ?_ | refine .row ?_ | refine .rset ?_ | refine .box ?_ | exact .gone | refine .aggL ?_ | refine .tupL ?_ | refine .old rfl ?_ | refine .new rfl rfl rfl ?_ | exact .nl | exact .optr rfl | exact .nptr rfl rfl rfl | refine .t ?_ | exact .any _ | rfl)); (first | done | fail))) : Fin P fn (fun r L => r = r0 ∧ L = L0) n T heap := Fin.mkv hrs hx K hK hK1 h1 h2 hr
theorem Wk.cq {T' : Nat → AV} {heap' : List Ob} (m : Nat) (hm : n.h ≤ m := by first | exact (Nat.le_of_ble_eq_true rfl) | fail) (hh : (heap.take m).map (upP (keepG m)) = heap' := by first | exact rfl | fail) (hT : Fk (keepG m) T T' := by ((repeat' (first | exact Fk.nil | refine Fk.pu ?_ ?_ | rfl | exact hup)); (first | done | fail))) : Wk n T heap T' heap' := Wk.cut2 m hm hh hT
end
section
variable {P : Program} {ops : Array Oper} {Q : QS} {rest : List Oper} {o : Oper} {n : Fr} {T : Nat → AV} {heap : List Ob} {d : Nat}
theorem A_mt (hw : wantedA n T ops o = true) (hd : o.dst = some d) {x : Operand} (ho : o.op = .move x) {y : Tr} (hx : evA n T x = .t y) (k : AL P ops Q rest n (pu T d (.t y)) heap) : AL P ops Q (o :: rest) n T heap := A_move hw hd x (.inl ho) hx k
theorem A_as (hw : wantedA n T ops o = true) (hd : o.dst = some d) {x : Operand} (ho : o.op = .assign x) {y : Tr} (hx : evA n T x = .t y) (k : AL P ops Q rest n (pu T d (.t y)) heap) : AL P ops Q (o :: rest) n T heap := A_move hw hd x (.inr ho) hx k
theorem R_mt {F : List Dl → (Nat → AV) → List Ob → Prop} {acc : List Dl} (hw : wantedA n T ops o = true) (hd : o.dst = some d) {x : Operand} (ho : o.op = .move x) {y : Tr} (hx : evA n T x = .t y) (k : RG P ops n F rest (acc ++ [⟨some d, .t y, [], []⟩]) (pu T d (.t y)) heap) : RG P ops n F (o :: rest) acc T heap := R_move hw hd x (.inl ho) hx k
theorem R_as {F : List Dl → (Nat → AV) → List Ob → Prop} {acc : List Dl} (hw : wantedA n T ops o = true) (hd : o.dst = some d) {x : Operand} (ho : o.op = .assign x) {y : Tr} (hx : evA n T x = .t y) (k : RG P ops n F rest (acc ++ [⟨some d, .t y, [], []⟩]) (pu T d (.t y)) heap) : RG P ops n F (o :: rest) acc T heap := R_move hw hd x (.inr ho) hx k
def opKind (o : Oper) : Nat := match o.op with
  | .move _ => 0
  | .assign _ => 1
  | .load t _ => 2 + 32 * t
  | .store t _ _ => 3 + 32 * t
  | .fieldAddr t _ _ => 4 + 32 * t
  | .field t _ _ => 5 + 32 * t
  | .indexAddr t _ _ => 6 + 32 * t
  | .box t _ => 7 + 32 * t
  | .alloc t => 8 + 32 * t
  | .binOp _ t _ _ _ => 9 + 32 * t
  | .call c => match c.callee with
    | .value (.func f) => 10 + 32 * f
    | .value _ => 11
    | _ => 12
  | .slice t _ _ _ _ => 13 + 32 * t
  | .build t _ => 14 + 32 * t
  | .buildSlice t _ _ => 15 + 32 * t
  | .makeSlice t _ _ => 16 + 32 * t
  | .convert s _ _ => 17 + 32 * s
  | .extract _ _ => 18
  | .pick _ _ _ => 19
  | .unOp _ _ _ => 20
  | .makeFunc _ _ _ => 21
  | _ => 31
theorem kAL (k : AL P ops Q rest n T heap) : AL P ops Q rest n T heap := k
theorem kL (c : Nat) (h : opKind o = c) (k : AL P ops Q (o :: rest) n T heap) : AL P ops Q (o :: rest) n T heap := k
theorem kRG {F : List Dl → (Nat → AV) → List Ob → Prop} {ac : List Dl} (k : RG P ops n F rest ac T heap) : RG P ops n F rest ac T heap := k
theorem kR (c : Nat) (h : opKind o = c) {F : List Dl → (Nat → AV) → List Ob → Prop} {ac : List Dl} (k : RG P ops n F (o :: rest) ac T heap) : RG P ops n F (o :: rest) ac T heap := k
end
end Go.Proofs.Ytmljglphegeilaa


namespace Go.Proofs.Ytmljglphegeilaa
set_option linter.unusedVariables false
set_option linter.unusedSimpArgs false
set_option linter.unnecessarySimpa false
theorem inf3 : (Try.prog.info? 3).map (fun i => (i.zero, i.size, i.bytes)) = some (some (.int .i64 0), 1, 8) := by kernel_rfl
theorem inf4 : (Try.prog.info? 4).map (fun i => (i.zero, i.size, i.bytes)) = some (some (.bool false), 1, 1) := by kernel_rfl
theorem inf22 : (Try.prog.info? 22).map (fun i => (i.zero, i.size, i.bytes)) = some (some (.slice none 0 0), 1, 24) := by kernel_rfl
theorem inf23 : (Try.prog.info? 23).map (fun i => (i.zero, i.size, i.bytes)) = some (some (.slice none 0 0), 1, 24) := by kernel_rfl
theorem inf25 : (Try.prog.info? 25).map (fun i => (i.zero, i.size, i.bytes)) = some (some (.agg #[.int .i64 0, .slice none 0 0, .slice none 0 0]), 3, 56) := by kernel_rfl
theorem inf26 : (Try.prog.info? 26).map (fun i => (i.zero, i.size, i.bytes)) = some (some (.slice none 0 0), 1, 24) := by kernel_rfl
theorem inf34 : (Try.prog.info? 34).map (fun i => (i.zero, i.size, i.bytes)) = some (some (.agg #[.bool false, .bool false, .bool false, .int .i64 0, .slice none 0 0, .int .i64 0, .int .i64 0]), 7, 56) := by kernel_rfl
theorem inf37 : (Try.prog.info? 37).map (fun i => (i.zero, i.size, i.bytes)) = some (some (.slice none 0 0), 1, 24) := by kernel_rfl
theorem inf39 : (Try.prog.info? 39).map (fun i => (i.zero, i.size, i.bytes)) = some (some (.agg #[.int .i64 0, .int .i64 0, .int .i64 0, .bool false, .slice none 0 0]), 5, 56) := by kernel_rfl
theorem inf42 : (Try.prog.info? 42).map (fun i => (i.zero, i.size, i.bytes)) = some (some (.int .i64 0), 1, 8) := by kernel_rfl
theorem inf44 : (Try.prog.info? 44).map (fun i => (i.zero, i.size, i.bytes)) = some (some (.agg #[.int .i64 0, .int .i64 0, .int .i64 0, .int .i64 0]), 4, 32) := by kernel_rfl
theorem inf46 : (Try.prog.info? 46).map (fun i => (i.zero, i.size, i.bytes)) = some (some (.agg #[.int .i64 0, .int .i64 0, .int .i64 0]), 3, 24) := by kernel_rfl
abbrev ud3 := @Try.underlying3
abbrev ud4 := @Try.underlying4
abbrev ud22 := @Try.underlying22
abbrev ud23 := @Try.underlying23
abbrev ud25 := @Try.underlying25
abbrev ud26 := @Try.underlying26
abbrev ud34 := @Try.underlying34
abbrev ud37 := @Try.underlying37
abbrev ud39 := @Try.underlying39
abbrev ud42 := @Try.underlying42
abbrev ud44 := @Try.underlying44
abbrev ud46 := @Try.underlying46
end Go.Proofs.Ytmljglphegeilaa


namespace Go.Proofs.Ytmljglphegeilaa
set_option linter.unusedVariables false
set_option linter.unusedSimpArgs false
set_option linter.unnecessarySimpa false
open Go.RowKit
section
variable {P : Program} {w : World}
theorem run_part {t : TypeId} (ha : ∀ w, (isAgg t).run P w = .ok false w) {cs : Array Value} {off : Nat} {v : Value} (hv : cs[off]? = some v) : (part t cs off).run P w = .ok v w := by
  unfold part
  simp only [Sem.run_bind, ha, Result.andThen_ok, Bool.false_eq_true, if_false, hv, Sem.run_pure]
theorem eqf_cons {d : Nat} {xs ys : Array Value} {f : Field} {fs : List Field} (hn : (f.name == "_") = false) {x y : Value} (hx : (part f.type xs f.offset).run P w = .ok x w) (hy : (part f.type ys f.offset).run P w = .ok y w) {p q : Prop} [Decidable p] [Decidable q]
    (h : (Op.equalIn d f.type x y).run P w = .ok (decide p) w) (k : (Op.eqFields d xs ys fs).run P w = .ok (decide q) w) : (Op.eqFields d xs ys (f :: fs)).run P w = .ok (decide (p ∧ q)) w := by
  have hn' : f.name ≠ "_" := by simpa using hn
  unfold Op.eqFields
  simp only [if_pos hn', Sem.run_bind, hx, hy, h, Result.andThen_ok]
  by_cases hp : p
  · simp only [hp, decide_true, Bool.not_true, Bool.false_eq_true, if_false, true_and]
    exact k
  · simp [hp]
theorem eqf_nil {d : Nat} {xs ys : Array Value} : (Op.eqFields d xs ys []).run P w = .ok (decide True) w := by
  unfold Op.eqFields; simp
theorem eq_int {t : TypeId} (ht : P.underlying t = some (.int .i64)) (d : Nat) (a b : Int) : (Op.equalIn (d + 1) t (.int .i64 a) (.int .i64 b)).run P w = .ok (decide (a = b)) w := by
  rw [run_equalIn_int w d t .i64 .i64 a b ht]
  by_cases h : a = b <;> simp [h]
theorem A_nes {ops : Array Oper} {Q : QS} {rest : List Oper} {o : Oper} {n : Fr} {T : Nat → AV} {heap : List Ob} {d : Nat} (hw : wantedA n T ops o = true) (hd : o.dst = some d) (xt yt : TypeId) (x y : Operand) (ho : o.op = .binOp .neq xt x y yt) {us vs : Array Value} (hx : cvA (evA n T x) = some (.agg us)) (hy : cvA (evA n T y) = some (.agg vs))
    (hm : P.eqGuardType P.depth xt = false) {p : Prop} [Decidable p] (he : ∀ w, (Op.equalIn 10000 xt (.agg us) (.agg vs)).run P w = .ok (decide p) w) {c : Bool} (hc : (!decide p) = c) (k : AL P ops Q rest n (pu T d (.t (.v (.bool c)))) heap) : AL P ops Q (o :: rest) n T heap := by
  subst hc
  exact A_bin hw hd _ _ _ _ _ ho hx hy (fun w => by rw [Sem.run_bind, run_eqGuard_agg w _ _ _ _ _ _ hm, Result.andThen_ok, run_neq_struct, he, Result.andThen_ok]) rfl k
theorem R_nes {ops : Array Oper} {rest : List Oper} {o : Oper} {n : Fr} {T : Nat → AV} {heap : List Ob} {d : Nat} (hw : wantedA n T ops o = true) (hd : o.dst = some d) (xt yt : TypeId) (x y : Operand) (ho : o.op = .binOp .neq xt x y yt) {us vs : Array Value} (hx : cvA (evA n T x) = some (.agg us)) (hy : cvA (evA n T y) = some (.agg vs))
    (hm : P.eqGuardType P.depth xt = false) {p : Prop} [Decidable p] (he : ∀ w, (Op.equalIn 10000 xt (.agg us) (.agg vs)).run P w = .ok (decide p) w) {c : Bool} (hc : (!decide p) = c) {F : List Dl → (Nat → AV) → List Ob → Prop} {acc : List Dl} (k : RG P ops n F rest (acc ++ [⟨some d, .t (.v (.bool c)), [], []⟩]) (pu T d (.t (.v (.bool c)))) heap) : RG P ops n F (o :: rest) acc T heap :=
  RG.cons hd.symm (fun T' h' hT hH hlen_ => A_nes (by rw [wanted_eqA hT]; exact hw) hd _ _ _ _ ho (by rw [ev_eq hT (by simp [ho, Op.operands])]; exact hx) (by rw [ev_eq hT (by simp [ho, Op.operands])]; exact hy) hm he hc (AL.nil ⟨rfl, rfl, rfl⟩)) rfl rfl k
end
theorem not_dec_false {p : Prop} [Decidable p] (h : ¬ p) : (!decide p) = true := by simp [h]
theorem not_dec_true {p : Prop} [Decidable p] (h : p) : (!decide p) = false := by simp [h]
theorem isAgg_no {t : TypeId} {k : IntKind} (h : Try.prog.underlying t = some (.int k)) (w : World) : (isAgg t).run Try.prog w = .ok false w := by
  unfold isAgg; simp only [Sem.run_bind, run_underlying h, Result.andThen_ok, Sem.run_pure]
set_option maxHeartbeats 4000000
set_option maxRecDepth 100000 in
theorem eqs44 (d : Nat) (a0 a1 a2 a3 b0 b1 b2 b3 : Int) (w : World) : (Op.equalIn (d + 2) 44 (.agg #[.int .i64 a0, .int .i64 a1, .int .i64 a2, .int .i64 a3]) (.agg #[.int .i64 b0, .int .i64 b1, .int .i64 b2, .int .i64 b3])).run Try.prog w = .ok (decide (a0 = b0 ∧ a1 = b1 ∧ a2 = b2 ∧ a3 = b3 ∧ True)) w := by
  rw [run_equalIn_agg w (d + 1) 44 _ _ (by kernel_rfl) (by kernel_rfl)]
  simp only [Program.fieldsOf, Try.underlying44]
  refine eqf_cons (x := .int .i64 a0) (y := .int .i64 b0) (by kernel_rfl) (run_part (isAgg_no Try.underlying3) (by kernel_rfl)) (run_part (isAgg_no Try.underlying3) (by kernel_rfl)) (eq_int Try.underlying3 (d + 0) _ _) ?_
  refine eqf_cons (x := .int .i64 a1) (y := .int .i64 b1) (by kernel_rfl) (run_part (isAgg_no Try.underlying3) (by kernel_rfl)) (run_part (isAgg_no Try.underlying3) (by kernel_rfl)) (eq_int Try.underlying3 (d + 0) _ _) ?_
  refine eqf_cons (x := .int .i64 a2) (y := .int .i64 b2) (by kernel_rfl) (run_part (isAgg_no Try.underlying42) (by kernel_rfl)) (run_part (isAgg_no Try.underlying42) (by kernel_rfl)) (eq_int Try.underlying42 (d + 0) _ _) ?_
  refine eqf_cons (x := .int .i64 a3) (y := .int .i64 b3) (by kernel_rfl) (run_part (isAgg_no Try.underlying3) (by kernel_rfl)) (run_part (isAgg_no Try.underlying3) (by kernel_rfl)) (eq_int Try.underlying3 (d + 0) _ _) ?_
  exact eqf_nil
end Go.Proofs.Ytmljglphegeilaa


namespace Go.Proofs.Ytmljglphegeilaa
set_option linter.unusedVariables false
set_option linter.unusedSimpArgs false
set_option linter.unnecessarySimpa false
open Go.RowKit
def isPtr : AV → Bool
  | .ptr _ _ => true
  | .lp _ => true
  | .rp _ _ _ _ => true
  | _ => false
section
variable {P : Program} {ops : Array Oper} {Q : QS} {rest : List Oper} {o : Oper} {n : Fr} {T : Nat → AV} {heap : List Ob} {d : Nat}
theorem A_nilc (hw : wantedA n T ops o = true) (hd : o.dst = some d) (x : Operand) (ho : o.op = .nilCheck x) {y : AV} (hx : evA n T x = y) (hp : isPtr y = true) (k : AL P ops Q rest n (pu T d y) heap) : AL P ops Q (o :: rest) n T heap := by
  subst hx
  refine AL.val hw hd (fun e a w ρ Z Y hR => ⟨a.eval x, ?_, hR.eval x⟩) k
  have hv := hR.eval x
  have key : ∀ (y : AV) (v : Value), isPtr y = true → Val (Kn heap) ρ w Z Y y v → ∃ p, v = .pointer (some p) := by
    intro y v hp hv
    cases hv <;> first | (cases hp; done) | exact ⟨_, rfl⟩
  obtain ⟨p, e1⟩ := key _ _ hp hv
  unfold execOp; rw [ho]
  simp only [e1]
  rfl
theorem R_nilc {F : List Dl → (Nat → AV) → List Ob → Prop} {acc : List Dl} (hw : wantedA n T ops o = true) (hd : o.dst = some d) (x : Operand) (ho : o.op = .nilCheck x) {y : AV} (hx : evA n T x = y) (hp : isPtr y = true) (k : RG P ops n F rest (acc ++ [⟨some d, y, [], []⟩]) (pu T d y) heap) : RG P ops n F (o :: rest) acc T heap :=
  RG.cons hd.symm (fun T' h' hT hH hlen_ => A_nilc (by rw [wanted_eqA hT]; exact hw) hd x ho (by rw [ev_eq hT (by simp [ho, Op.operands, Call.operands])]; exact hx) hp (AL.nil ⟨rfl, rfl, rfl⟩)) rfl rfl k
theorem A_pkt (hw : wantedA n T ops o = true) (hd : o.dst = some d) (c x y : Operand) (ho : o.op = .pick c x y) (hc : evA n T c = .t (.v (.bool true))) {u : Tr} (hx : evA n T x = .t u) (k : AL P ops Q rest n (pu T d (.t u)) heap) : AL P ops Q (o :: rest) n T heap := A_pick hw hd c x y ho hc hx rfl rfl k
theorem A_pkf (hw : wantedA n T ops o = true) (hd : o.dst = some d) (c x y : Operand) (ho : o.op = .pick c x y) (hc : evA n T c = .t (.v (.bool false))) {u : Tr} (hx : evA n T y = .t u) (k : AL P ops Q rest n (pu T d (.t u)) heap) : AL P ops Q (o :: rest) n T heap := A_pick hw hd c x y ho hc rfl hx rfl k
theorem R_pkt {F : List Dl → (Nat → AV) → List Ob → Prop} {acc : List Dl} (hw : wantedA n T ops o = true) (hd : o.dst = some d) (c x y : Operand) (ho : o.op = .pick c x y) (hc : evA n T c = .t (.v (.bool true))) {u : Tr} (hx : evA n T x = .t u) (k : RG P ops n F rest (acc ++ [⟨some d, .t u, [], []⟩]) (pu T d (.t u)) heap) : RG P ops n F (o :: rest) acc T heap := R_pick hw hd c x y ho hc hx rfl rfl k
theorem R_pkf {F : List Dl → (Nat → AV) → List Ob → Prop} {acc : List Dl} (hw : wantedA n T ops o = true) (hd : o.dst = some d) (c x y : Operand) (ho : o.op = .pick c x y) (hc : evA n T c = .t (.v (.bool false))) {u : Tr} (hx : evA n T y = .t u) (k : RG P ops n F rest (acc ++ [⟨some d, .t u, [], []⟩]) (pu T d (.t u)) heap) : RG P ops n F (o :: rest) acc T heap := R_pick hw hd c x y ho hc rfl hx rfl k
end
end Go.Proofs.Ytmljglphegeilaa


namespace Go.Proofs.Ytmljglphegeilaa
set_option linter.unusedVariables false
set_option linter.unusedSimpArgs false
set_option linter.unnecessarySimpa false
open Go.RowKit
section
variable {P : Program} {ops : Array Oper} {Q : QS} {rest : List Oper} {o : Oper} {n : Fr} {T : Nat → AV} {heap : List Ob} {d : Nat}
end
end Go.Proofs.Ytmljglphegeilaa

