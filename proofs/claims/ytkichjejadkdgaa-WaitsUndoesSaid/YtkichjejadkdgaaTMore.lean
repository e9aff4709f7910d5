/- Slices that are typed out; function values; what is frozen, over trees. No program in sight. -/
import Derived.Test.YtkichjejadkdgaaTScal
namespace Go.Proofs.Ytkichjejadkdgaa
set_option linter.unusedVariables false
set_option linter.unusedSimpArgs false
set_option linter.unnecessarySimpa false
open Go.RowKit
def litA (size : Nat) : Nat → List (Nat × List AV) → Option (List (List Tr))
  | _, [] => some []
  | k, (i, cs) :: r => match trsA cs, litA size (k + 1) r with
    | some ts, some m => bif Nat.beq i k && Nat.beq ts.length size then some (ts :: m) else none
    | _, _ => none
theorem fill_lit {size : Nat} : ∀ (ps : List (Nat × Value)) (vss : List (List Value)) (k : Nat) (cells : List Value), ps.length = vss.length → (∀ (j : Nat) i v vs, ps[j]? = some (i, v) → vss[j]? = some vs → i = k + j ∧ v.cells = vs.toArray ∧ vs.length = size) → cells.length = (k + vss.length) * size →
    Instr.fill (fun i => some (i * size, size)) cells.toArray ps = some (cells.take (k * size) ++ vss.flatten).toArray
  | [], [], k, cells, _, _, hc => by
    simp only [List.length_nil, Nat.add_zero] at hc
    simp [Instr.fill, ← hc]
  | [], _ :: _, _, _, h, _, _ => by simp at h
  | _ :: _, [], _, _, h, _, _ => by simp at h
  | (i, v) :: ps, vs :: vss, k, cells, hl, hp, hc => by
    obtain ⟨e1, e2, e3⟩ := hp 0 i v vs rfl rfl
    have e1 : i = k := by omega
    subst e1
    simp only [List.length_cons] at hc
    have hle : i * size + size ≤ cells.length := by
      rw [hc, ← Nat.succ_mul]
      exact Nat.mul_le_mul_right _ (by omega)
    unfold Instr.fill
    simp only [e2, List.size_toArray, e3]
    rw [if_neg (by simp; omega)]
    have hf := fold_set vs 0 (i * size) cells.toArray (by simp; omega)
    have ee : vs.toArray.zipIdx.foldl (fun cs (x : Value × Nat) => cs.setIfInBounds (i * size + x.2) x.1) cells.toArray = (cells.take (i * size) ++ vs ++ cells.drop (i * size + size)).toArray := by
      apply Array.toList_inj.1
      rw [← Array.foldl_toList, Array.toList_zipIdx]
      simpa [e3] using hf
    have ih := fill_lit ps vss (i + 1) (cells.take (i * size) ++ vs ++ cells.drop (i * size + size)) (by simpa using hl) (fun j i' v' vs' h1 h2 => by
      obtain ⟨a, b, c⟩ := hp (j + 1) i' v' vs' (by simpa using h1) (by simpa using h2)
      exact ⟨by omega, b, c⟩) (by
      simp only [List.length_append, List.length_take, List.length_drop, e3]
      rw [show (i + 1 + vss.length) * size = (i + (vss.length + 1)) * size by congr 1; omega, ← hc]
      omega)
    have h5 : (cells.take (i * size) ++ vs ++ cells.drop (i * size + size)).take ((i + 1) * size) = cells.take (i * size) ++ vs := by
      rw [Nat.succ_mul]
      refine List.take_left' ?_
      rw [List.length_append, List.length_take, e3]; omega
    rw [h5] at ih
    rw [List.flatten_cons, ← List.append_assoc, ← ih]
    exact congrArg (fun c => Instr.fill (fun i => some (i * size, size)) c ps) ee
theorem lit_open {e : Env} {n : Fr} {T : Nat → AV} {heap : List Ob} {a : Act} {w : World} {ρ : Rho} {Z Y : Nat → Prop} (hR : Rp e ⟨n, T, heap⟩ a w ρ Z Y) {size : Nat} {ps : List (Nat × Operand)} {qs : List (Nat × List AV)} (hp : Parts n T ps qs) :
    ∀ {k : Nat} {els : List (List Tr)}, litA size k qs = some els → ∃ vss : List (List Value), vss.length = els.length ∧ ps.length = vss.length ∧ (∀ (j : Nat) i v vs, (ps.map (fun x => (x.1, a.eval x.2)))[j]? = some (i, v) → vss[j]? = some vs → i = k + j ∧ v.cells = vs.toArray ∧ vs.length = size) ∧ Elems (Frz w Z) size els vss.flatten := by
  induction hp with
  | nil => intro k els h; cases h; exact ⟨[], rfl, rfl, fun j i v vs h => by simp at h, .nil⟩
  | @cons i x cs ps qs h k ih =>
    intro kk els hl
    unfold litA at hl
    split at hl
    · rename_i ts m h1 h2
      cases hb : (Nat.beq i kk && Nat.beq ts.length size) with
      | false => rw [hb] at hl; cases hl
      | true =>
        rw [hb] at hl
        cases hl
        rw [Bool.and_eq_true] at hb
        have b1 := Nat.eq_of_beq_eq_true hb.1
        have b2 := Nat.eq_of_beq_eq_true hb.2
        subst b1
        obtain ⟨ws, g1, g2, g3⟩ := (hR.eval x).flat h
        obtain ⟨q1, q2⟩ := trsA_open h1 g2
        obtain ⟨vss, v1, v2, v3, v4⟩ := ih h2
        refine ⟨ws :: vss, by simp [v1], by simp [v2], fun j i' v vs hj hv => ?_, ?_⟩
        · cases j with
          | zero => simp at hj hv; obtain ⟨rfl, rfl⟩ := hj; subst hv; exact ⟨rfl, g1, by omega⟩
          | succ j =>
            obtain ⟨a1, a2, a3⟩ := v3 j i' v vs (by simpa using hj) (by simpa using hv)
            exact ⟨by omega, a2, a3⟩
        · rw [List.flatten_cons]
          have h6 : Elems (Frz w Z) size [ts] ws := ⟨by simp; omega, fun c hc => by simp at hc; rw [hc]; exact b2, fun i' c j y u hi hj hu => by
            cases i' with
            | zero => simp at hi; subst hi; exact q2 j y u hj (by simpa using hu)
            | succ i' => simp at hi⟩
          exact h6.append v4
    · cases hl
section
variable {P : Program} {ops : Array Oper} {Q : QS} {rest : List Oper} {o : Oper} {n : Fr} {T : Nat → AV} {heap : List Ob} {d : Nat}
/-- []T{} -/
theorem A_lit0 (hw : wantedA n T ops o = true) (hd : o.dst = some d) (t : TypeId) (ho : o.op = .buildSlice t 0 #[]) {e : TypeId} (ht : P.underlying t = some (.slice e)) {z : Option Value} {size bytes : Nat} (hI : (P.info? e).map (fun i => (i.zero, i.size, i.bytes)) = some (z, size, bytes))
    (k : AL P ops Q rest n (pu T d .nl) heap) : AL P ops Q (o :: rest) n T heap := by
  refine AL.act hw hd (fun en a w ρ Z Y hR => ?_) k
  have hrep := hR.ok.rep
  have hsame : ∀ b, b < w.heap.size → (w.alloc (.cells #[] e)).heap[b]? = w.heap[b]? := fun b hb => Below.heap_alloc w _ b hb
  have hm : ∀ x v, Val (Kn heap) ρ w Z Y x v → Val (Kn heap) ρ (w.alloc (.cells #[] e)) Z Y x v := fun x v hv => hrep.val (fun j k hj => ⟨hj, rfl⟩) (fun _ h => h) (fun b hb => ⟨hb, hsame b (hrep.ylt b hb)⟩) hv
  refine ⟨.slice (some ⟨w.heap.size, 0, none⟩) 0 0, w.alloc (.cells #[] e), ρ, Z, Y, ?_, ?_, hm, .nl _⟩
  · refine val_of (s := Instr.buildSlice t 0 #[]) (by unfold execOp; rw [ho]; simp) ?_
    obtain ⟨inf, hin, _, hs, _⟩ := info_of hI
    simp [Instr.buildSlice, run_underlying ht, sizeOf, typeInfo, hin, Result.andThen, Instr.fill, newRow]
    exact congrArg (fun c => w.alloc (Obj.cells c e)) (Array.eq_empty_of_size_eq_zero (by simp))
  · have := hR.ok.push (N := heap.length) (L := []) (heap' := heap) (w' := w.alloc (.cells #[] e)) (ρ' := ρ) (Z' := Z) (Y' := Y) (.push rfl (by simp)) (fun _ _ _ => rfl) ⟨rfl, rfl, rfl⟩ (by simp) hsame (fun _ h => h) (fun _ h => h) hrep.zy (fun b hb => .inl hb) (fun b hb => .inl hb) (fun q o hq => by simp at hq) (fun q r o o' b hq => by simp at hq) (fun q o b hq => by simp at hq)
    exact this
theorem A_lit (hw : wantedA n T ops o = true) (hd : o.dst = some d) (t : TypeId) (len : Nat) (parts : Array (Nat × Operand)) (ho : o.op = .buildSlice t len parts) {e : TypeId} (ht : P.underlying t = some (.slice e)) {z : Value} {size bytes : Nat} (hI : (P.info? e).map (fun i => (i.zero, i.size, i.bytes)) = some (some z, size, bytes))
    {qs : List (Nat × List AV)} (hq : Parts n T parts.toList qs) {els : List (List Tr)} (he : litA size 0 qs = some els) {els' : List (List Tr)} (he' : els = els') (hlen : els'.length = len) (h0 : len * size ≠ 0) (hm : len * size ≤ 16777216) (hn : len ≤ 16777216)
    {heap' : List Ob} {N : Nat} (hat : AtL heap N [.row 0 e size els'] heap') (k : AL P ops Q rest n (pu T d (.sl N 0 len)) heap') : AL P ops Q (o :: rest) n T heap := by
  subst he'
  refine AL.act hw hd (fun en a w ρ Z Y hR => ?_) k
  have hrep := hR.ok.rep
  obtain ⟨vss, v1, v2, v3, v4⟩ := lit_open hR hq he
  obtain ⟨inf, hin, hz, hs, hb⟩ := info_of hI
  have hlen' : vss.flatten.length = len * size := by rw [v4.len, hlen]
  have hfill := fill_lit (size := size) (parts.toList.map (fun x => (x.1, a.eval x.2))) vss 0 ((Array.range (len * size)).map (z.cells[· % z.cells.size]!)).toList (by simpa using v2) v3 (by simp [v1, hlen])
  have hsame : ∀ b, b < w.heap.size → (w.alloc (.cells vss.flatten.toArray e)).heap[b]? = w.heap[b]? := fun b hb => Below.heap_alloc w _ b hb
  have hzz : ∀ b, Z b → Z b ∧ (w.alloc (.cells vss.flatten.toArray e)).heap[b]? = w.heap[b]? := fun b hb => ⟨hb, hsame b (hrep.ylt b (hrep.zy b hb))⟩
  have hrow : (w.alloc (.cells vss.flatten.toArray e)).ownsRow 0 e size (.slice (some ⟨w.heap.size, 0, none⟩) len len) len vss.flatten := by
    have := World.ownsRow_lit (base := 0) (e := e) (size := size) w vss.flatten.toArray len (Nat.zero_le _) (by simp only [maxLen]; omega) (by simpa using hlen')
    simpa using this
  have hl0 : len ≠ 0 := fun h => h0 (by rw [h]; simp)
  obtain ⟨ρ', k1, k2, k3, k4⟩ := hR.ok.push1 (o := .row 0 e size els) hat (w' := w.alloc (.cells vss.flatten.toArray e)) (pl := ⟨some ⟨w.heap.size, 0, none⟩, len, size⟩) ⟨rfl, rfl, rfl⟩ (by simp) hsame
    (fun ρ' hN hρ => ⟨by rw [hN], _, v4.mono fun _ _ h => Frz.mono hzz h, by rw [hN, hlen]; exact .inr ⟨by show 0 < len; omega, hrow⟩⟩)
    (fun b hb _ => by simp at hb; subst hb; simp)
  refine ⟨.slice (some ⟨w.heap.size, 0, none⟩) len len, _, ρ', Z, Y, ?_, k1, k2, ?_⟩
  · refine val_of (s := Instr.buildSlice t len (parts.map (fun (i, x) => (i, a.eval x)))) (by unfold execOp; rw [ho]) ?_
    have e1 : (sizeOf e).run P w = .ok size w := by simp [sizeOf, typeInfo, hin, hs]
    have e2 : (zeroValue e).run P w = .ok z w := by simp [zeroValue, typeInfo, hin, hz]
    have hm' : ¬ (len * size > 2 ^ 24) := by omega
    have e5 : (parts.map (fun (i, x) => (i, a.eval x))).toList = parts.toList.map (fun x => (x.1, a.eval x.2)) := by simp
    simp only [Nat.zero_mul, List.take_zero, List.nil_append] at hfill
    simp only [Instr.buildSlice, Sem.run_bind, run_underlying ht, Result.andThen_ok, e1, if_neg hm', if_neg h0, e2, Sem.run_pure, e5]
    simp only [Array.toArray_toList] at hfill
    simp only [hfill]
    simp [newRow, Result.andThen]
  · have := Val.sl (Kn := Kn heap') (ρ := ρ') (w := w.alloc (.cells vss.flatten.toArray e)) (Z := Z) (Y := Y) (i := N) (k := 0) (n := len) ⟨_, hat.one, Nat.le_refl _⟩ (by rw [k3]; exact Nat.le_refl _) (by rw [k3]; intro e; cases e)
    rw [k3] at this
    exact this
/-- A function's value, and what it holds. -/
inductive Args (n : Fr) (T : Nat → AV) : List Operand → List AV → Prop
  | nil : Args n T [] []
  | cons {x : Operand} {y : AV} {l : List Operand} {m : List AV} (h : evA n T x = y) (k : Args n T l m) : Args n T (x :: l) (y :: m)
theorem Args.get {l : List Operand} {m : List AV} (h : Args n T l m) : m = l.map (evA n T) := by
  induction h with
  | nil => rfl
  | cons h k ih => rw [ih, ← h]; rfl
theorem A_fn (hw : wantedA n T ops o = true) (hd : o.dst = some d) (f : Fn) (first cap : Array Operand) (ho : o.op = .makeFunc f first cap) {us vs : List AV} (hf : Args n T first.toList us) (hc : Args n T cap.toList vs) (k : AL P ops Q rest n (pu T d (.fn f us vs)) heap) : AL P ops Q (o :: rest) n T heap := by
  refine AL.val hw hd (fun en a w ρ Z Y hR => ?_) k
  have e1 := hf.get
  have e2 := hc.get
  subst e1 e2
  refine ⟨.func f (first.toList.map a.eval).toArray (cap.toList.map a.eval).toArray, val_of (s := Instr.makeFunc f (first.map a.eval) (cap.map a.eval)) (by unfold execOp; rw [ho]) ?_, .fn (by simp) (by simp) (fun j x u hj hu => ?_) (fun j x u hj hu => ?_)⟩
  · have q1 : first.map a.eval = (first.toList.map a.eval).toArray := by apply Array.toList_inj.1; simp
    have q2 : cap.map a.eval = (cap.toList.map a.eval).toArray := by apply Array.toList_inj.1; simp
    rw [q1, q2]; rfl
  · rw [List.getElem?_map] at hj hu
    cases hx : first.toList[j]? with
    | none => rw [hx] at hj; cases hj
    | some y => rw [hx] at hj hu; cases hj; cases hu; exact hR.eval y
  · rw [List.getElem?_map] at hj hu
    cases hx : cap.toList[j]? with
    | none => rw [hx] at hj; cases hj
    | some y => rw [hx] at hj hu; cases hj; cases hu; exact hR.eval y
theorem A_pick (hw : wantedA n T ops o = true) (hd : o.dst = some d) (c x y : Operand) (ho : o.op = .pick c x y) {b : Bool} (hc : evA n T c = .t (.v (.bool b))) {u v : AV} (hx : evA n T x = u) (hy : evA n T y = v) {r : AV} (hr : (bif b then u else v) = r) (k : AL P ops Q rest n (pu T d r) heap) : AL P ops Q (o :: rest) n T heap := by
  subst hx hy hr
  refine AL.val hw hd (fun en a w ρ Z Y hR => ?_) k
  have e1 := cvA_open (u := .bool b) (by rw [hc]; rfl) (hR.eval c)
  refine ⟨if b then a.eval x else a.eval y, ?_, ?_⟩
  · unfold execOp
    simp only [ho, e1]
    cases b <;> simp [asBool, Result.andThen]
  · cases b
    · exact hR.eval y
    · exact hR.eval x
end
/-! what is frozen: a slot's slices of an own row become trees; the row is nobody's any more -/
inductive FzR (i k : Nat) (els : List (List Tr)) : AV → AV → Prop
  | all {m : Nat} (hm : els.length = m) : FzR i k els (.sl i k m) (.t (.lst els))
  | sl {m : Nat} (hm : m ≤ els.length) : FzR i k els (.sl i k m) (.t (.lst (els.take m)))
  | sub {off m : Nat} (hm : off + m ≤ els.length) : FzR i k els (.sub i k off m) (.t (.lst ((els.drop off).take m)))
  | nlt : FzR i k els .nl (.t (.lst []))
  | same (x : AV) : FzR i k els x x
  | agg {l l' : List AV} (h1 : l.length = l'.length) (h : ∀ (j : Nat) x y, l[j]? = some x → l'[j]? = some y → FzR i k els x y) : FzR i k els (.agg l) (.agg l')
inductive FzL (i k : Nat) (els : List (List Tr)) : List AV → List AV → Prop
  | nil : FzL i k els [] []
  | cons {x y : AV} {l l' : List AV} (h : FzR i k els x y) (g : FzL i k els l l') : FzL i k els (x :: l) (y :: l')
theorem FzL.get {i k : Nat} {els : List (List Tr)} {l l' : List AV} (h : FzL i k els l l') : l.length = l'.length ∧ ∀ (j : Nat) x y, l[j]? = some x → l'[j]? = some y → FzR i k els x y := by
  induction h with
  | nil => exact ⟨rfl, fun j x y h => by simp at h⟩
  | cons h k ih =>
    refine ⟨by simp [ih.1], fun j x y hj hy => ?_⟩
    cases j with
    | zero => simp at hj hy; subst hj hy; exact h
    | succ j => exact ih.2 j x y (by simpa using hj) (by simpa using hy)
theorem FzR.aggL {i k : Nat} {els : List (List Tr)} {l l' : List AV} (h : FzL i k els l l') : FzR i k els (.agg l) (.agg l') := .agg h.get.1 h.get.2
theorem frz_take {w : World} {Z : Nat → Prop} {s : Nat} {a : Option Addr} {c m : Nat} {els : List (List Tr)} {xs : List Value} (hr : Rs w s a els.length c xs) (he : Elems (Frz w Z) s els xs) (hz : xs ≠ [] → Z (adr a).block) (hm : m ≤ els.length) : Frz w Z (.lst (els.take m)) (.slice a m c) :=
  .shut (by rw [List.length_take]; omega) (rs_take hr hm) (fun hne => hz fun e => by rw [e] at hne; simp at hne) (he.take m)
theorem FzR.val {Kn : Nat → Nat → Prop} {ρ : Rho} {w : World} {Z Y : Nat → Prop} {i k : Nat} {els : List (List Tr)} (hf : ∀ m, m ≤ els.length → Frz w Z (.lst (els.take m)) (.slice (ρ i k).a m (ρ i k).c)) (hg : ∀ (off m : Nat) (a : Option Addr) (c : Nat), m ≤ c → c ≤ maxLen → (a = .none → m = 0 ∧ c = 0) → (m ≠ 0 → a = some ((adr (ρ i k).a).add (off * (ρ i k).s))) → off + m ≤ els.length → Frz w Z (.lst ((els.drop off).take m)) (.slice a m c)) {x y : AV} (h : FzR i k els x y) : ∀ {v : Value}, Val Kn ρ w Z Y x v → Val Kn ρ w Z Y y v := by
  induction h with
  | all hm =>
    intro v hv
    cases hv with
    | sl hk hc h0 =>
      have := hf els.length (Nat.le_refl _)
      rw [List.take_length] at this
      subst hm
      exact .t this
  | sl hm =>
    intro v hv
    cases hv with
    | sl hk hc h0 => exact .t (hf _ hm)
  | sub hm =>
    intro v hv
    cases hv with
    | sub hk hn' hmx h0 ha => exact .t (hg _ _ _ _ hn' hmx h0 ha hm)
  | nlt =>
    intro v hv
    cases hv with
    | nl sa => exact .t (.lst (size := 0) (xs := []) ⟨Nat.le_refl _, Nat.zero_le _, fun _ => ⟨rfl, rfl⟩, by simp, fun j u hj => by simp at hj⟩ (fun h => absurd rfl h) rfl (fun _ h => by simp at h) (fun i cs j x u hi => by simp at hi))
  | same x => intro v hv; exact hv
  | agg h1 h ih =>
    intro v hv
    cases hv with
    | agg e1 ho hu =>
      refine .agg (by rw [← h1]; exact e1) ho (fun j y u hj hu' => ?_)
      have hlt := get_lt hj
      rw [← h1] at hlt
      exact ih j _ y (List.getElem?_eq_getElem hlt) hj (hu j _ u (List.getElem?_eq_getElem hlt) hu')
theorem Wk.freeze {n : Fr} {T : Nat → AV} {heap : List Ob} (i : Nat) {k : Nat} {E : TypeId} {s : Nat} {els : List (List Tr)} (hi : heap[i]? = some (.row k E s els)) (d : Nat) {x y : AV} (hd : evA n T (.tmp d) = x) (hr : FzR i k els x y) {heap' : List Ob} (hh : heap.set i (.gone k) = heap') : Wk n T heap (pu T d y) heap' := by
  subst hh hd
  rintro e a w ⟨ρ, Z, Y, hR⟩
  have hrep := hR.ok.rep
  obtain ⟨h1, xs, h2, h3, h4⟩ := hrep.row hi
  have hz : ∀ b, Z b → (Z b ∨ (Ob.row k E s els).blk ρ i = some b) ∧ w.heap[b]? = w.heap[b]? := fun b hb => ⟨.inl hb, rfl⟩
  have hy : ∀ b, Y b → (Y b ∨ (Ob.row k E s els).blk ρ i = some b) ∧ w.heap[b]? = w.heap[b]? := fun b hb => ⟨.inl hb, rfl⟩
  have hm : ∀ x v, Val (Kn heap) ρ w Z Y x v → Val (Kn (heap.set i (.gone k))) ρ w (fun b => Z b ∨ (Ob.row k E s els).blk ρ i = some b) (fun b => Y b ∨ (Ob.row k E s els).blk ρ i = some b) x v := fun x v hv =>
    hv.mono (fun j q hj => ⟨hj.set hi (Nat.le_refl _), rfl⟩) hz hy
  have hok : Ok e (heap.set i (.gone k)) w ρ (fun b => Z b ∨ (Ob.row k E s els).blk ρ i = some b) (fun b => Y b ∨ (Ob.row k E s els).blk ρ i = some b) := by
    refine hR.ok.mono (hrep.freeze hi) (fun j q hj => ⟨hj.set hi (Nat.le_refl _), rfl⟩) ⟨rfl, rfl, rfl⟩ (Nat.le_refl _) (fun j p b hj hp => ?_) (fun b hb => .inl hb) (fun b hb => .inl hb) (fun b hb => hb.elim .inl fun hb => .inr (hR.ok.dom i _ b hi hb)) (fun _ _ _ => rfl)
    rw [List.getElem?_set] at hj
    split at hj
    · split at hj <;> cases hj
      cases hp
    · exact hR.ok.dom j p b hj hp
  have hblk : xs ≠ [] → Z (adr (ρ i k).a).block ∨ (Ob.row k E s els).blk ρ i = some (adr (ρ i k).a).block := fun hne => .inr (by
    rcases h3 with ⟨_, _, e⟩ | ⟨hc, hh⟩
    · exact absurd e hne
    · simp only [Ob.blk]
      rw [if_neg (by omega)]
      cases ha : (ρ i k).a with
      | some b => rfl
      | none =>
        rw [ha] at hh
        rcases hh.2 with ⟨e, _⟩ | ⟨g, cap, cur, e, _⟩
        · simp only [Value.slice.injEq] at e; omega
        · simp at e)
  have hfz : ∀ m, m ≤ els.length → Frz w (fun b => Z b ∨ (Ob.row k E s els).blk ρ i = some b) (.lst (els.take m)) (.slice (ρ i k).a m (ρ i k).c) := fun m hm =>
    frz_take h4 (h2.mono fun _ _ h => Frz.mono hz h) hblk hm
  have hgz : ∀ (off m : Nat) (a : Option Addr) (c : Nat), m ≤ c → c ≤ maxLen → (a = .none → m = 0 ∧ c = 0) → (m ≠ 0 → a = some ((adr (ρ i k).a).add (off * (ρ i k).s))) → off + m ≤ els.length → Frz w (fun b => Z b ∨ (Ob.row k E s els).blk ρ i = some b) (.lst ((els.drop off).take m)) (.slice a m c) := by
    intro off m a c hn' hmx h0 ha hle
    have e : ((els.drop off).take m).length = m := by rw [List.length_take, List.length_drop]; omega
    have hm0 : ∀ {q : List Value}, q = (xs.drop (off * s)).take (m * s) → q ≠ [] → m ≠ 0 := fun e1 hne e2 => hne (by rw [e1, e2]; simp)
    have hE := (((h2.mono fun _ _ h => Frz.mono hz h).drop off).take m)
    refine .shut (xs := (xs.drop (off * s)).take (m * s)) (size := s) e ⟨hn', hmx, h0, ?_, fun j u hj => ?_⟩ (fun hne => ?_) hE
    · have := hE.len
      rw [e] at this; exact this
    · have hne := hm0 rfl (fun e => by rw [e] at hj; simp at hj)
      rw [List.getElem?_take] at hj
      split at hj
      · rw [ha hne, List.getElem?_drop] at *
        show w.cell? (Addr.add ((adr (ρ i k).a).add _) j) = _
        rw [add_add, h1]
        exact h4.cells _ u hj
      · cases hj
    · have hne' := hm0 rfl hne
      rw [ha hne']
      show Z (Addr.add _ _).block ∨ _ = some (Addr.add _ _).block
      rw [add_block]
      exact hblk (fun e => by rw [e] at hne; simp at hne)
  have hv := hR.eval (.tmp d)
  have h5 := hR.move hok hm
  have h6 := FzR.val hfz hgz hr (hm _ _ hv)
  refine ⟨ρ, _, _, h5.ok, h5.defers, h5.n, h5.hl, fun t v ht => ?_⟩
  by_cases c : t = d
  · subst c
    show Val _ _ _ _ _ (pu T t y t) v
    simp only [pu, Nat.beq_refl, cond_true]
    simp only [Act.eval, Array.getD_eq_getD_getElem?, ht, Option.getD_some] at h6
    exact h6
  · show Val _ _ _ _ _ (pu T d y t) v
    have h1 : Nat.beq t d = false := by
      cases hb : Nat.beq t d
      · rfl
      · exact absurd (Nat.eq_of_beq_eq_true hb) c
    simp only [pu, h1, cond_false]
    exact h5.at_ t v ht
end Go.Proofs.Ytkichjejadkdgaa
