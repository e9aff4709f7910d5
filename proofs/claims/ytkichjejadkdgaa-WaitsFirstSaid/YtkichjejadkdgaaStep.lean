/- One operation at a time, over what is owned: the world behind each step is a new one, of which the list of resources tells all that is wanted. Any program. -/
import Derived.Test.YtkichjejadkdgaaHeap
import Derived.Test.YtkichjejadkdgaaRegion
import Derived.Laws.Slices
namespace Go.Proofs.Ytkichjejadkdgaa
set_option linter.unusedVariables false
set_option linter.unusedSimpArgs false
set_option linter.unnecessarySimpa false
open Go.RowKit

section
variable {P : Program} {ops : Array Oper} {Q : Exit → Act → World → Prop} {o : Oper} {rest : List Oper} {a : Act} {w : World} {B : Nat} {own : List Res} {ro : List (World → Prop)}
theorem wpList_do (hw : Region.wanted o (yielded ops a.tmps) = true) (h : ∀ K : Act → World → Prop, (∀ a w, wpList P ops Q rest a w → K a w) → o.wp P a w K Q) : wpList P ops Q (o :: rest) a w :=
  wpList_step fun K hK => by rw [if_pos hw]; exact h K hK
theorem wpList_val (hw : Region.wanted o (yielded ops a.tmps) = true) {v : Value} {w' : World} (hr : (execOp a.eval o).run P w = .ok (.value v) w') (k : wpList P ops Q rest (a.put o.dst v) w') : wpList P ops Q (o :: rest) a w :=
  wpList_do hw fun K hK => by unfold Oper.wp; rw [hr]; exact hK _ _ k
theorem wpList_unit (hw : Region.wanted o (yielded ops a.tmps) = true) {w' : World} (hr : (execOp a.eval o).run P w = .ok .skip w') (k : wpList P ops Q rest (a.put o.dst undef) w') : wpList P ops Q (o :: rest) a w :=
  wpList_do hw fun K hK => by unfold Oper.wp; rw [hr]; exact hK _ _ k
theorem val_of {s : Sem Value} {o : Oper} {ρ : Operand → Value} {P : Program} {w w' : World} {v : Value} (h : execOp ρ o = (do pure (.value (← s)))) (hr : s.run P w = .ok v w') : (execOp ρ o).run P w = .ok (.value v) w' := by
  rw [h]; simp [Sem.run_bind, hr, Result.andThen]
theorem add_add (p : Addr) (m n : Nat) : (p.add m).add n = p.add (m + n) := by
  unfold Addr.add
  by_cases hm : m = 0 <;> by_cases hn : n = 0 <;> simp [hm, hn, Nat.add_assoc]
theorem add_at (b o n : Nat) : (⟨b, o, none⟩ : Addr).add n = ⟨b, o + n, none⟩ := by
  unfold Addr.add; split <;> simp_all

/-! boxes -/
theorem step_box (hw : Region.wanted o (yielded ops a.tmps) = true) (T : TypeId) (x : Operand) (ho : o.op = .box T x) (v : Value) (hx : a.eval x = v) (vs : List Value) (hv : v.cells = vs.toArray)
    (hH : Heap B w own ro) (k : ∀ b w', Heap B w' (.box b T vs :: own) ro → Below B w w' → wpList P ops Q rest (a.put o.dst (.pointer (some ⟨b, 0, none⟩))) w') : wpList P ops Q (o :: rest) a w := by
  refine wpList_val hw (v := .pointer (some ⟨w.heap.size, 0, none⟩)) (w' := w.alloc (.cells vs.toArray T)) ?_ (k _ _ (hH.alloc vs T) ((Below.refl _ _).alloc hH.le.1 _))
  refine val_of (s := Instr.box T (a.eval x)) (by unfold execOp; rw [ho]) ?_
  rw [hx]
  simp [Instr.box, newVar, newRow, hv]
theorem step_alloc (hw : Region.wanted o (yielded ops a.tmps) = true) (T : TypeId) (ho : o.op = .alloc T) {z : Value} {size bytes : Nat} (hI : (P.info? T).map (fun i => (i.zero, i.size, i.bytes)) = some (some z, size, bytes)) (vs : List Value) (hv : z.cells = vs.toArray)
    (hH : Heap B w own ro) (k : ∀ b w', Heap B w' (.box b T vs :: own) ro → Below B w w' → wpList P ops Q rest (a.put o.dst (.pointer (some ⟨b, 0, none⟩))) w') : wpList P ops Q (o :: rest) a w := by
  refine wpList_val hw (v := .pointer (some ⟨w.heap.size, 0, none⟩)) (w' := w.alloc (.cells vs.toArray T)) ?_ (k _ _ (hH.alloc vs T) ((Below.refl _ _).alloc hH.le.1 _))
  refine val_of (s := Instr.alloc T true (.tuple #[])) (by unfold execOp; rw [ho]) ?_
  cases hi : P.info? T with
  | none => rw [hi] at hI; simp at hI
  | some i =>
    rw [hi] at hI
    simp at hI
    simp [Instr.alloc, zeroValue, typeInfo, hi, hI.1, newVar, newRow, hv]
theorem run_load_one {T : TypeId} {d : TypeDesc} (hu : P.underlying T = some d) (hd : (match d with | .struct _ | .array _ _ => true | _ => false) = false) {p : Addr} {u : Value} (hc : w.cell? p = some u) : (Instr.loadAt T (.pointer (some p))).run P w = .ok u w := by
  have : (isAgg T).run P w = .ok false w := by
    unfold isAgg
    rw [Sem.run_bind, run_underlying hu]
    cases d <;> simp_all [Result.andThen]
  simp [Instr.loadAt, Instr.sureAddr, loadVar, this, hc, Result.andThen, Sem.run, load]
theorem run_load_agg {T : TypeId} {d : TypeDesc} (hu : P.underlying T = some d) (hd : (match d with | .struct _ | .array _ _ => true | _ => false) = true) {z : Option Value} {size bytes : Nat} (hI : (P.info? T).map (fun i => (i.zero, i.size, i.bytes)) = some (z, size, bytes)) {p : Addr} {us : List Value} (hl : us.length = size)
    (hc : ∀ j u, us[j]? = some u → w.cell? (p.add j) = some u) : (Instr.loadAt T (.pointer (some p))).run P w = .ok (.agg us.toArray) w := by
  have h1 : (isAgg T).run P w = .ok true w := by
    unfold isAgg
    rw [Sem.run_bind, run_underlying hu]
    cases d <;> simp_all [Result.andThen]
  cases hi : P.info? T with
  | none => rw [hi] at hI; simp at hI
  | some i =>
    rw [hi] at hI
    simp at hI
    have h2 : (sizeOf T).run P w = .ok size w := by simp [sizeOf, typeInfo, hi, hI.2.1]
    have h3 := run_loadCells_list (P := P) w p us hc
    rw [hl] at h3
    simp [Instr.loadAt, Instr.sureAddr, loadVar, h1, h2, h3, Result.andThen]
/-- A cell is read, wherever it lies. -/
theorem step_load (hw : Region.wanted o (yielded ops a.tmps) = true) (T : TypeId) (x : Operand) (ho : o.op = .load T x) {d : TypeDesc} (hu : P.underlying T = some d) (hd : (match d with | .struct _ | .array _ _ => true | _ => false) = false)
    (p : Addr) (hx : a.eval x = .pointer (some p)) (u : Value) (hc : w.cell? p = some u) (k : wpList P ops Q rest (a.put o.dst u) w) : wpList P ops Q (o :: rest) a w :=
  wpList_val hw (val_of (s := Instr.loadAt T (a.eval x)) (by unfold execOp; rw [ho]) (by rw [hx]; exact run_load_one hu hd hc)) k
theorem step_load_agg (hw : Region.wanted o (yielded ops a.tmps) = true) (T : TypeId) (x : Operand) (ho : o.op = .load T x) {d : TypeDesc} (hu : P.underlying T = some d) (hd : (match d with | .struct _ | .array _ _ => true | _ => false) = true)
    {z : Option Value} {size bytes : Nat} (hI : (P.info? T).map (fun i => (i.zero, i.size, i.bytes)) = some (z, size, bytes)) (p : Addr) (hx : a.eval x = .pointer (some p)) (us : List Value) (hl : us.length = size) (hc : ∀ j u, us[j]? = some u → w.cell? (p.add j) = some u)
    (k : wpList P ops Q rest (a.put o.dst (.agg us.toArray)) w) : wpList P ops Q (o :: rest) a w :=
  wpList_val hw (val_of (s := Instr.loadAt T (a.eval x)) (by unfold execOp; rw [ho]) (by rw [hx]; exact run_load_agg hu hd hI hl hc)) k
/-- .. of a box. -/
theorem step_load_box (hw : Region.wanted o (yielded ops a.tmps) = true) (T : TypeId) (x : Operand) (ho : o.op = .load T x) {d : TypeDesc} (hu : P.underlying T = some d) (hd : (match d with | .struct _ | .array _ _ => true | _ => false) = false)
    (b off : Nat) (hx : a.eval x = .pointer (some ⟨b, off, none⟩)) (hH : Heap B w own ro) (i : Nat) {T' : TypeId} {cs : List Value} (hi : own[i]? = some (.box b T' cs)) (u : Value) (hc : cs[off]? = some u)
    (k : wpList P ops Q rest (a.put o.dst u) w) : wpList P ops Q (o :: rest) a w :=
  step_load hw T x ho hu hd _ hx u (hH.cell i hi off hc) k
theorem step_load_box_agg (hw : Region.wanted o (yielded ops a.tmps) = true) (T : TypeId) (x : Operand) (ho : o.op = .load T x) {d : TypeDesc} (hu : P.underlying T = some d) (hd : (match d with | .struct _ | .array _ _ => true | _ => false) = true)
    {z : Option Value} {size bytes : Nat} (hI : (P.info? T).map (fun i => (i.zero, i.size, i.bytes)) = some (z, size, bytes)) (b off : Nat) (hx : a.eval x = .pointer (some ⟨b, off, none⟩)) (hH : Heap B w own ro) (i : Nat) {T' : TypeId} {cs : List Value} (hi : own[i]? = some (.box b T' cs))
    (us : List Value) (hus : (cs.drop off).take size = us) (hl : us.length = size) (k : wpList P ops Q rest (a.put o.dst (.agg us.toArray)) w) : wpList P ops Q (o :: rest) a w := by
  refine step_load_agg hw T x ho hu hd hI _ hx us hl (fun j u hj => ?_) k
  rw [add_at]
  refine hH.cell i hi _ ?_
  rw [← hus, List.getElem?_take] at hj
  split at hj
  · rwa [List.getElem?_drop] at hj
  · cases hj
theorem step_store_box (hw : Region.wanted o (yielded ops a.tmps) = true) (T : TypeId) (x y : Operand) (ho : o.op = .store T x y) (b off : Nat) (hx : a.eval x = .pointer (some ⟨b, off, none⟩)) (v : Value) (hy : a.eval y = v) (vs : List Value) (hv : v.cells = vs.toArray)
    {z : Option Value} {size bytes : Nat} (hI : (P.info? T).map (fun i => (i.zero, i.size, i.bytes)) = some (z, size, bytes)) (hl : vs.length = size) (h1 : ∀ u ∈ vs, u.oneCell' = true)
    (hH : Heap B w own ro) (i : Nat) {T' : TypeId} {cs : List Value} (hi : own[i]? = some (.box b T' cs)) (hf : off + vs.length ≤ cs.length)
    (k : ∀ w', Heap B w' (own.set i (.box b T' (cs.take off ++ vs ++ cs.drop (off + vs.length)))) ro → Below B w w' → wpList P ops Q rest (a.put o.dst undef) w') : wpList P ops Q (o :: rest) a w := by
  have hh := (hH.holds i hi).1
  have hb := hH.box_lt i hi
  unfold Res.holds at hh
  have hst := run_storeCells_at P b off T' vs 0 cs.toArray w hh (by simpa using hf) h1
  simp only [Nat.add_zero] at hst
  refine wpList_unit hw (w' := w.setRow b (cs.take off ++ vs ++ cs.drop (off + vs.length)).toArray) ?_ (k _ (hH.turn i _ _ hi ?_ (by simp) (fun k' hk hne => ?_) (fun k' hk => .inl (by simpa [Res.blk] using hk))) ?_)
  · unfold execOp; rw [ho]
    cases hin : P.info? T with
    | none => rw [hin] at hI; simp at hI
    | some inf =>
      rw [hin] at hI
      simp at hI
      simp [Instr.storeAt, Instr.sureAddr, hx, hy, storeVar, sizeOf, typeInfo, hin, hI.2.1, hv, hl, hst, Result.andThen]
  · unfold Res.holds
    exact setRow_heap w b cs.toArray _ T' _ hh
  · exact setRow_other w b k' _ (fun e => hne (by simp [Res.blk, e]))
  · exact (Below.refl B w).trans ⟨rfl, rfl, rfl, by simp, fun k' hk => setRow_other w b k' _ (by omega)⟩
theorem step_field_box (hw : Region.wanted o (yielded ops a.tmps) = true) (T : TypeId) (x : Operand) (f : Nat) (ho : o.op = .fieldAddr T x f) {fs : Array Field} (hu : P.underlying T = some (.struct fs)) {fd : Field} (hf : fs[f]? = some fd)
    {z : Option Value} {size bytes : Nat} (hI : (P.info? fd.type).map (fun i => (i.zero, i.size, i.bytes)) = some (z, size, bytes)) (hs : size ≠ 0) (b off : Nat) (hx : a.eval x = .pointer (some ⟨b, off, none⟩)) (n : Nat) (hn : off + fd.offset = n)
    (k : wpList P ops Q rest (a.put o.dst (.pointer (some ⟨b, n, none⟩))) w) : wpList P ops Q (o :: rest) a w := by
  subst hn
  refine wpList_val hw (val_of (s := Instr.fieldAt T (a.eval x) f) (by unfold execOp; rw [ho]) ?_) k
  cases hin : P.info? fd.type with
  | none => rw [hin] at hI; simp at hI
  | some inf =>
    rw [hin] at hI
    simp at hI
    simp [Instr.fieldAt, run_underlying hu, hf, hx, Instr.sureAddr, fieldPlace, sizeOf, typeInfo, hin, hI.2.1, hs, add_at, Result.andThen]
theorem step_field_row (hw : Region.wanted o (yielded ops a.tmps) = true) (T : TypeId) (x : Operand) (f : Nat) (ho : o.op = .fieldAddr T x f) {fs : Array Field} (hu : P.underlying T = some (.struct fs)) {fd : Field} (hf : fs[f]? = some fd)
    {z : Option Value} {size bytes : Nat} (hI : (P.info? fd.type).map (fun i => (i.zero, i.size, i.bytes)) = some (z, size, bytes)) (hs : size ≠ 0) (p : Addr) (q m : Nat) (hx : a.eval x = .pointer (some (p.add (q + m)))) (n : Nat) (hn : m + fd.offset = n)
    (k : wpList P ops Q rest (a.put o.dst (.pointer (some (p.add (q + n))))) w) : wpList P ops Q (o :: rest) a w := by
  subst hn
  refine wpList_val hw (val_of (s := Instr.fieldAt T (a.eval x) f) (by unfold execOp; rw [ho]) ?_) k
  cases hin : P.info? fd.type with
  | none => rw [hin] at hI; simp at hI
  | some inf =>
    rw [hin] at hI
    simp at hI
    simp [Instr.fieldAt, run_underlying hu, hf, hx, Instr.sureAddr, fieldPlace, sizeOf, typeInfo, hin, hI.2.1, hs, add_add, Nat.add_assoc, Result.andThen]

/-! rows -/
theorem elem_of {t e : TypeId} (ht : P.underlying t = some (.slice e)) : P.elem t = e := by simp [Program.elem, ht]
theorem run_size {e : TypeId} {z : Option Value} {size bytes : Nat} (hI : (P.info? e).map (fun i => (i.zero, i.size, i.bytes)) = some (z, size, bytes)) : (sizeOf e).run P w = .ok size w := by
  cases hin : P.info? e with
  | none => rw [hin] at hI; simp at hI
  | some inf =>
    rw [hin] at hI
    simp at hI
    simp [sizeOf, typeInfo, hin, hI.2.1]
theorem step_idx (hw : Region.wanted o (yielded ops a.tmps) = true) (t : TypeId) (x ix : Operand) (ho : o.op = .indexAddr t x ix) {e : TypeId} (ht : P.underlying t = some (.slice e)) {z : Option Value} {size bytes : Nat} (hI : (P.info? e).map (fun i => (i.zero, i.size, i.bytes)) = some (z, size, bytes))
    (sa : Option Addr) (n c : Nat) (hx : a.eval x = .slice sa n c) (kd : IntKind) (I : Int) (hi : a.eval ix = .int kd I) {xs : List Value} {W' : World} (hr : Rs W' size sa n c xs) (h0 : 0 ≤ I) (h1 : I < n) (J : Nat) (hJ : I.toNat = J)
    (k : wpList P ops Q rest (a.put o.dst (.pointer (some ((adr sa).add (J * size + 0))))) w) : wpList P ops Q (o :: rest) a w := by
  subst hJ
  refine wpList_val hw (val_of (s := Instr.indexAt t (a.eval x) (a.eval ix)) (by unfold execOp; rw [ho]) ?_) k
  cases sa with
  | none => have := (hr.none rfl).1; omega
  | some b =>
    rw [hx, hi, run_indexAt_slice w t b n c kd I (by rw [elem_of ht]; exact ht), if_pos ⟨h0, h1⟩, elem_of ht, run_size hI]
    rfl
theorem Rs.elem {size : Nat} {sa : Option Addr} {n c : Nat} {α : Type} {enc : α → List Value} {l : List α} (h : Rs w size sa n c (l.flatMap enc)) (he : ∀ x ∈ l, (enc x).length = size) {i : Nat} {x : α} (hi : l[i]? = some x) :
    ∀ j u, (enc x)[j]? = some u → w.cell? ((adr sa).add (i * size + j)) = some u := by
  intro j u hj
  refine h.cells _ u ?_
  have key : ∀ (l : List α) (i : Nat), (∀ x ∈ l, (enc x).length = size) → l[i]? = some x → (l.flatMap enc)[i * size + j]? = some u := by
    intro l
    induction l with
    | nil => intro i _ h; simp at h
    | cons y l ih =>
      intro i he hi
      have hy := he y (List.mem_cons_self ..)
      rw [List.flatMap_cons]
      cases i with
      | zero =>
        simp at hi; subst hi
        rw [Nat.zero_mul, Nat.zero_add, List.getElem?_append_left (List.getElem?_eq_some_iff.1 hj).1]
        exact hj
      | succ i =>
        rw [List.getElem?_append_right (by rw [hy, Nat.succ_mul]; omega), hy, show (i + 1) * size + j - size = i * size + j by rw [Nat.succ_mul]; omega]
        exact ih i (fun x hx => he x (List.mem_cons_of_mem _ hx)) (by simpa using hi)
  exact key l i he hi

theorem turn_row {sa : Option Addr} {n c : Nat} {E : TypeId} {size : Nat} {xs : List Value} (hH : Heap B w own ro) (j : Nat) (hj : own[j]? = some (.row sa n c E size xs)) {w' : World} {a' : Option Addr} {n' c' : Nat} {xs' : List Value}
    (h' : (Res.row a' n' c' E size xs').holds B w') (hg : w.grownBy w' (if c = 0 then none else sa.map (·.block))) (hb : ∀ k, (Res.row a' n' c' E size xs').blk = some k → (if c = 0 then none else sa.map (·.block)) = some k ∨ (w.heap.size ≤ k ∧ k < w'.heap.size)) :
    Heap B w' (own.set j (.row a' n' c' E size xs')) ro ∧ Below B w w' := by
  have hB : ∀ k, (if c = 0 then none else sa.map (·.block)) = some k → B ≤ k := fun k hk => ((hH.holds j hj).2 k hk).1
  refine ⟨hH.turn j _ _ hj h' hg.size (fun k hk hne => hg.block k hk fun e => hne (by simpa [Res.blk] using e.symm)) (fun k hk => hb k hk), ?_⟩
  exact (Below.refl B w).grown hg hH.le.1 hB
/-- append, to a row of the call's own. -/
theorem step_append (hw : Region.wanted o (yielded ops a.tmps) = true) (s x : Operand) (t : TypeId) (ho : o.op = .call { callee := .builtin .append, args := #[s, x], argTypes := #[t, t] })
    {e : TypeId} (ht : P.underlying t = some (.slice e)) {z : Value} {size bytes : Nat} (hI : (P.info? e).map (fun i => (i.zero, i.size, i.bytes)) = some (some z, size, bytes)) (hzs : z.cells.size = size)
    (hH : Heap B w own ro) (j : Nat) {sa : Option Addr} {n c : Nat} {xs : List Value} (hj : own[j]? = some (.row sa n c e size xs)) (hs : a.eval s = .slice sa n c)
    (xa : Option Addr) (m xc : Nat) (hx : a.eval x = .slice xa m xc) {news : List Value} (hr : Rs w size xa m xc news) (h1 : ∀ u ∈ news, u.oneCell' = true) (b1 : n + m ≤ maxLen) (b2 : (n + m) * bytes ≤ 140737488355328)
    (k : ∀ a' c' w', Heap B w' (own.set j (.row a' (n + m) c' e size (xs ++ news))) ro → Below B w w' → wpList P ops Q rest (a.put o.dst (.slice a' (n + m) c')) w') : wpList P ops Q (o :: rest) a w := by
  have hown := (hH.holds j hj).1
  have hrs := hH.row j hj
  cases hin : P.info? e with
  | none => rw [hin] at hI; simp at hI
  | some inf =>
  rw [hin] at hI
  simp at hI
  obtain ⟨hz, hsz, hby⟩ := hI
  subst hsz hby
  have hlen : (xs ++ news).length = (n + m) * inf.size := by rw [List.length_append, hrs.len, hr.len, Nat.add_mul]
  have hsmall : n + m ≤ 9223372036854775807 := by simp only [maxLen] at b1; omega
  have main : ∃ a' c' w', (Builtin.append_ #[t, t] o.type #[.slice sa n c, .slice xa m xc]).run P w = .ok (.slice a' (n + m) c') w' ∧ (Res.row a' (n + m) c' e inf.size (xs ++ news)).holds B w' ∧ w.grownBy w' (if c = 0 then none else sa.map (·.block)) ∧
      (∀ k, (Res.row a' (n + m) c' e inf.size (xs ++ news)).blk = some k → (if c = 0 then none else sa.map (·.block)) = some k ∨ (w.heap.size ≤ k ∧ k < w'.heap.size)) := by
    by_cases hm : m = 0
    · -- nothing is added
      subst hm
      have hn : news = [] := List.eq_nil_of_length_eq_zero (by simpa using hr.len)
      subst hn
      refine ⟨sa, c, w, ?_, by simpa using hown, ⟨rfl, rfl, rfl, Nat.le_refl _, fun _ _ _ => rfl⟩, fun k hk => .inl hk⟩
      have hcap := hrs.cap
      cases sa with
      | none =>
        obtain ⟨rfl, rfl⟩ := hrs.none rfl
        cases xa <;> simp [Builtin.append_, run_underlying ht, sizeOf, typeInfo, hin, Builtin.lenOf, Builtin.firstCells, loadCells, loadCellsFrom]
      | some b => cases xa <;> simp [Builtin.append_, run_underlying ht, sizeOf, typeInfo, hin, Builtin.lenOf, Builtin.firstCells, hcap, storeCells, loadCells, loadCellsFrom]
    · cases xa with
      | none => exact absurd (hr.none rfl).1 hm
      | some ax =>
        have hnews : ∀ j u, news[j]? = some u → w.cell? (ax.add j) = some u := hr.cells
        have grown : ∀ (old : Nat), old < n + m → ∀ (row : Option Nat),
            (Res.row (some ⟨w.heap.size, 0, none⟩) (n + m) (grownCap w (n + m) old e) e inf.size (xs ++ news)).holds B (w.drew.alloc (.cells (xs.toArray ++ news.toArray ++ Builtin.zeroCells z.cells (grownCap w (n + m) old e - (n + m))) e)) ∧
            w.grownBy (w.drew.alloc (.cells (xs.toArray ++ news.toArray ++ Builtin.zeroCells z.cells (grownCap w (n + m) old e - (n + m))) e)) row := by
          intro old ho row
          have hge := grownCap_ge w (n + m) old e
          have hcm : grownCap w (n + m) old e ≤ maxLen := grownCap_le_maxLen w (n + m) old e b1
          refine ⟨.inr ⟨by omega, hlen, .inr ⟨w.heap.size, _, _, rfl, hH.le.1, heap_alloc_new w.drew _, hge, hcm, ?_, ?_⟩⟩, ⟨rfl, rfl, rfl, by simp, fun k hk _ => heap_alloc_old w.drew _ k hk⟩⟩
          · simp only [Array.size_append, List.size_toArray, size_zeroCells, hzs, hrs.len, hr.len, ← Nat.add_mul]
            congr 1
            omega
          · simp only [Array.toList_append, List.append_assoc]
            rw [← List.append_assoc, ← hlen]
            exact List.take_left
        have fresh : ∀ (o : Obj) (nn cc : Nat) (yy : List Value) (k : Nat) (q : Option Nat), (Res.row (some ⟨w.heap.size, 0, none⟩) nn cc e inf.size yy).blk = some k → q = some k ∨ (w.heap.size ≤ k ∧ k < (w.drew.alloc o).heap.size) := by
          intro o nn cc yy k q hk
          simp [Res.blk] at hk
          obtain ⟨_, hk⟩ := hk
          subst hk
          exact .inr ⟨Nat.le_refl _, by simp⟩
        cases sa with
        | none =>
          obtain ⟨rfl, rfl⟩ := hrs.none rfl
          have hxs : xs = [] := List.eq_nil_of_length_eq_zero (by simpa using hrs.len)
          subst hxs
          have hrun := run_append_nil (P := P) w t o.type e inf z ht hin hz ax m xc news hr.len hnews (by omega) (by omega) (by have hb := b2; simp only [Nat.zero_add] at hb; omega)
          have hgr := grown 0 (by omega) none
          simp only [Nat.zero_add, List.nil_append, Array.empty_append] at hgr ⊢
          exact ⟨_, _, _, hrun, hgr.1, hgr.2, fun k hk => fresh _ _ _ _ k _ hk⟩
        | some ab =>
          by_cases hroom : n + m ≤ c
          · have hc0 : c ≠ 0 := by omega
            rcases hown with ⟨h0, _, _⟩ | ⟨hcp, hown⟩
            · omega
            rcases hown.2 with ⟨he, _⟩ | ⟨g, cap, cur, he, hbg, hg, hnc, hcm, hcs, htake⟩
            · simp at he
            simp only [Value.slice.injEq, Option.some.injEq] at he
            obtain ⟨rfl, _, rfl⟩ := he
            have hfit : n * inf.size + news.length ≤ cur.size := by rw [hr.len, hcs, ← Nat.add_mul]; exact Nat.mul_le_mul_right _ hroom
            have hrun := run_append_room (P := P) w t o.type e inf ht hin g n c cur hg ax m xc news hr.len hnews h1 hroom hfit
            refine ⟨_, _, _, hrun, .inr ⟨hcp, hlen, .inr ⟨g, c, _, rfl, hbg, setRow_heap w g cur _ e _ hg, hroom, hcm, ?_, ?_⟩⟩, ⟨rfl, rfl, rfl, by simp, fun k _ hk => setRow_other w g k _ (fun e => hk (by simp [e, hc0]))⟩, fun k hk => .inl (by simpa [Res.blk, hc0] using hk)⟩
            · simp only [List.size_toArray, List.length_append, List.length_take, List.length_drop, Array.length_toList]
              omega
            · rw [htake, ← hlen]
              exact List.take_left
          · have hrun := run_append_grow (P := P) w t o.type e inf z ht hin hz ab n c xs hrs.len hrs.cells ax m xc news hr.len hnews (by omega) (by omega) (growslice_fits (by omega) b2)
            have hgr := grown c (by omega) (if c = 0 then none else Option.map (·.block) (some ab))
            exact ⟨_, _, _, hrun, hgr.1, hgr.2, fun k hk => fresh _ _ _ _ k _ hk⟩
  obtain ⟨a', c', w', hrun, h2, h3, h4⟩ := main
  obtain ⟨k1, k2⟩ := turn_row hH j hj h2 h3 h4
  refine wpList_val hw (v := .slice a' (n + m) c') (w' := w') ?_ (k _ _ _ k1 k2)
  unfold execOp
  simp only [ho, resolve, invoke, builtin, Sem.run_bind, Sem.run_pure, Result.andThen_ok, List.map_toArray, List.map_cons, List.map_nil, hs, hx, hrun]
/-- A store into an own row, at cell m. -/
theorem step_put (hw : Region.wanted o (yielded ops a.tmps) = true) (T : TypeId) (x y : Operand) (ho : o.op = .store T x y) (sa : Option Addr) (m : Nat) (hx : a.eval x = .pointer (some ((adr sa).add m))) (v : Value) (hy : a.eval y = v) (vs : List Value) (hv : v.cells = vs.toArray)
    {z : Option Value} {tsize bytes : Nat} (hI : (P.info? T).map (fun i => (i.zero, i.size, i.bytes)) = some (z, tsize, bytes)) (hl : vs.length = tsize) (h1 : ∀ u ∈ vs, u.oneCell' = true)
    (hH : Heap B w own ro) (j : Nat) {n c : Nat} {E : TypeId} {size : Nat} {xs : List Value} (hj : own[j]? = some (.row sa n c E size xs)) (hf : m + vs.length ≤ n * size) (hne : vs ≠ [])
    (k : ∀ w', Heap B w' (own.set j (.row sa n c E size (xs.take m ++ vs ++ xs.drop (m + vs.length)))) ro → Below B w w' → wpList P ops Q rest (a.put o.dst undef) w') : wpList P ops Q (o :: rest) a w := by
  have hown := (hH.holds j hj).1
  have hpos : 0 < vs.length := List.length_pos_iff.2 hne
  rcases hown with ⟨_, hn0, _⟩ | ⟨hcp, hown⟩
  · rw [hn0, Nat.zero_mul] at hf; omega
  have hc0 : c ≠ 0 := by omega
  rcases hown.2 with ⟨he, hn0⟩ | ⟨g, cap, cur, he, hbg, hg, hnc, hcm, hcs, htake⟩
  · rw [hn0, Nat.zero_mul] at hf; omega
  simp only [Value.slice.injEq] at he
  obtain ⟨rfl, _, rfl⟩ := he
  have hsz : n * size ≤ cur.size := by rw [hcs]; exact Nat.mul_le_mul_right _ hnc
  have hxl := hown.1
  have hst := run_storeCells_at P g m E vs 0 cur w hg (by omega) h1
  simp only [Nat.add_zero] at hst
  have hadd : (adr (some ⟨g, 0, none⟩)).add m = ⟨g, m, none⟩ := by
    show (⟨g, 0, none⟩ : Addr).add m = _
    rw [add_at]; simp
  have hxs : xs = cur.toList.take (n * size) := htake.symm
  have hrow : (w.setRow g (cur.toList.take m ++ vs ++ cur.toList.drop (m + vs.length)).toArray).ownsRow B E size (.slice (some ⟨g, 0, none⟩) n c) n (xs.take m ++ vs ++ xs.drop (m + vs.length)) := by
    refine ⟨by simp only [List.length_append, List.length_take, List.length_drop]; omega, .inr ⟨g, c, _, rfl, hbg, setRow_heap w g cur _ E _ hg, hnc, hcm, ?_, ?_⟩⟩
    · simp only [List.size_toArray, List.length_append, List.length_take, List.length_drop, Array.length_toList]
      omega
    · rw [hxs]
      apply List.ext_getElem?
      intro i
      simp only [List.getElem?_take, List.getElem?_append, List.length_append, List.length_take, List.getElem?_drop, Array.length_toList]
      have e1 : min m cur.size = m := by omega
      have e2 : min m (min (n * size) cur.size) = m := by omega
      rw [e1, e2]
      repeat' split
      all_goals first | rfl | (exfalso; omega) | (congr 1; omega)
  obtain ⟨k1, k2⟩ := turn_row hH j hj (.inr ⟨hcp, hrow⟩) ⟨rfl, rfl, rfl, by simp, fun k _ hk => setRow_other w g k _ (fun e => hk (by simp [e, hc0]))⟩ (fun k hk => .inl (by simpa [Res.blk] using hk))
  refine wpList_unit hw (w' := w.setRow g (cur.toList.take m ++ vs ++ cur.toList.drop (m + vs.length)).toArray) ?_ (k _ k1 k2)
  unfold execOp; rw [ho]
  cases hin : P.info? T with
  | none => rw [hin] at hI; simp at hI
  | some inf =>
    rw [hin] at hI
    simp at hI
    simp [Instr.storeAt, Instr.sureAddr, hx, hy, storeVar, sizeOf, typeInfo, hin, hI.2.1, hv, hl, hadd, hst, Result.andThen]
theorem toList_madeCells (z : Array Value) (n : Nat) : (madeCells z n).toList.length = n := by simp [madeCells]
/-- make: a row of n elements. -/
theorem step_make (hw : Region.wanted o (yielded ops a.tmps) = true) (t : TypeId) (l c : Operand) (ho : o.op = .makeSlice t l c) {e : TypeId} (ht : P.underlying t = some (.slice e)) {z : Value} {size bytes : Nat} (hI : (P.info? e).map (fun i => (i.zero, i.size, i.bytes)) = some (some z, size, bytes))
    (kl kc : IntKind) (L C : Int) (hl : a.eval l = .int kl L) (hc : a.eval c = .int kc C) (n : Nat) (hL : L = (n : Int)) (hC : C = (n : Int)) (b2 : bytes * n ≤ 281474976710656) (b3 : n ≤ maxLen)
    (hH : Heap B w own ro) (k : ∀ a' w', Heap B w' (.row a' n n e size (madeCells z.cells (n * size)).toList :: own) ro → Below B w w' → wpList P ops Q rest (a.put o.dst (.slice a' n n)) w') : wpList P ops Q (o :: rest) a w := by
  cases hin : P.info? e with
  | none => rw [hin] at hI; simp at hI
  | some inf =>
  rw [hin] at hI
  simp at hI
  obtain ⟨hz, hsz, hby⟩ := hI
  subst hsz hby hL hC
  refine wpList_do hw fun K hK => ?_
  obtain ⟨w', hrun, r1, r2⟩ := run_make_full (P := P) w w.heap.size t e inf z inf.size ht hin hz rfl kl kc n b2 b3 (Nat.le_refl _)
  have hb : Below w.heap.size w w' := (Below.refl _ _).grown r2 (Nat.le_refl _) (fun k h => by cases h)
  have hn : Hp w.heap.size w'.heap.size w' [.row (some ⟨w.heap.size, 0, none⟩) n n e inf.size (madeCells z.cells (n * inf.size)).toList] [] := by
    refine ⟨⟨fun _ => False, fun _ h => h.elim, fun r hr => ?_, by simp, fun _ h => by simp at h⟩, hb.size, Nat.le_refl _⟩
    simp at hr; subst hr
    refine ⟨?_, fun k hk => ?_⟩
    · by_cases h0 : n = 0
      · exact .inl ⟨h0, h0, List.eq_nil_of_length_eq_zero (by rw [r1.1, h0]; simp)⟩
      · exact .inr ⟨by omega, r1⟩
    · simp [Res.blk] at hk
      obtain ⟨_, hk⟩ := hk
      subst hk
      have := r1.lt w.heap.size rfl
      exact ⟨this.1, this.2, fun h => h⟩
  have kk := hK _ _ (k _ _ (hH.call hb hn) (hb.mono hH.le.1))
  unfold Oper.wp
  simp only [execOp, ho, hl, hc, Sem.run_bind, hrun, Result.andThen_ok, Sem.run_pure]
  exact kk

theorem rs_sliced {size : Nat} {sa : Option Addr} {n c : Nat} {xs : List Value} (hr : Rs w size sa n c xs) (l h : Nat) (h1 : l ≤ h) (h2 : h ≤ n) :
    Rs w size (if c = l then sa else sa.map (·.add (l * size))) (h - l) (c - l) ((xs.drop (l * size)).take ((h - l) * size)) := by
  have hc := hr.cap
  have hlen := hr.len
  have hm := hr.most
  by_cases e : c = l
  · rw [if_pos e]
    have e0 : h - l = 0 := by omega
    rw [e0]
    refine ⟨by omega, by omega, fun hn => by have := hr.none hn; omega, by simp, fun j u hj => by simp at hj⟩
  · rw [if_neg e]
    have hle : (h - l) * size ≤ (n - l) * size := Nat.mul_le_mul_right _ (by omega)
    have hsub : (n - l) * size = n * size - l * size := Nat.sub_mul ..
    have hln : l * size ≤ n * size := Nat.mul_le_mul_right _ (by omega)
    cases sa with
    | none => have := hr.none rfl; omega
    | some b =>
      refine ⟨by omega, by omega, fun hn => by simp at hn, by simp only [List.length_take, List.length_drop]; omega, fun j u hj => ?_⟩
      rw [List.getElem?_take] at hj
      split at hj
      · rw [List.getElem?_drop] at hj
        have := hr.cells _ u hj
        show w.cell? ((b.add (l * size)).add j) = some u
        rw [add_add]; exact this
      · cases hj
theorem step_slice_lo (hw : Region.wanted o (yielded ops a.tmps) = true) (t : TypeId) (x lo : Operand) (ho : o.op = .slice t x (some lo) none none) {e : TypeId} (ht : P.underlying t = some (.slice e)) {z : Option Value} {size bytes : Nat} (hI : (P.info? e).map (fun i => (i.zero, i.size, i.bytes)) = some (z, size, bytes))
    (sa : Option Addr) (n c : Nat) (hx : a.eval x = .slice sa n c) (kl : IntKind) (L : Int) (hl : a.eval lo = .int kl L) {xs : List Value} {W' : World} (hr : Rs W' size sa n c xs) (h0 : 0 ≤ L) (h1 : L ≤ n) (l : Nat) (hL : L.toNat = l)
    (k : ∀ a' c', Rs W' size a' (n - l) c' (xs.drop (l * size)) → wpList P ops Q rest (a.put o.dst (.slice a' (n - l) c')) w) : wpList P ops Q (o :: rest) a w := by
  subst hL
  refine wpList_val hw (val_of (s := Instr.sliceAt t (a.eval x) (some (a.eval lo)) none none) (by unfold execOp; rw [ho]; rfl) ?_) (k (if c = L.toNat then sa else sa.map (·.add (L.toNat * size))) (c - L.toNat) ?_)
  · have ht' : P.underlying t = some (.slice (P.elem t)) := by rw [elem_of ht]; exact ht
    rw [hx, hl, run_sliceAt_slice w t _ _ _ _ ht', run_slice_l w t sa n c ht' kl L h0 h1, elem_of ht, run_size hI]
    rfl
  · have := rs_sliced hr L.toNat n (by omega) (Nat.le_refl _)
    rw [List.take_of_length_le] at this
    · exact this
    · rw [List.length_drop, hr.len, Nat.sub_mul]; exact Nat.le_refl _
theorem step_slice_hi (hw : Region.wanted o (yielded ops a.tmps) = true) (t : TypeId) (x hi : Operand) (ho : o.op = .slice t x none (some hi) none) {e : TypeId} (ht : P.underlying t = some (.slice e)) {z : Option Value} {size bytes : Nat} (hI : (P.info? e).map (fun i => (i.zero, i.size, i.bytes)) = some (z, size, bytes))
    (sa : Option Addr) (n c : Nat) (hx : a.eval x = .slice sa n c) (kh : IntKind) (H : Int) (hh : a.eval hi = .int kh H) {xs : List Value} {W' : World} (hr : Rs W' size sa n c xs) (h0 : 0 ≤ H) (h1 : H ≤ n) (h : Nat) (hH : H.toNat = h)
    (k : ∀ a' c', Rs W' size a' h c' (xs.take (h * size)) → wpList P ops Q rest (a.put o.dst (.slice a' h c')) w) : wpList P ops Q (o :: rest) a w := by
  subst hH
  have hc := hr.cap
  refine wpList_val hw (val_of (s := Instr.sliceAt t (a.eval x) none (some (a.eval hi)) none) (by unfold execOp; rw [ho]; rfl) ?_) (k (if c = 0 then sa else sa.map (·.add (0 * size))) (c - 0) ?_)
  · have ht' : P.underlying t = some (.slice (P.elem t)) := by rw [elem_of ht]; exact ht
    rw [hx, hh, run_sliceAt_slice w t _ _ _ _ ht', run_slice_h w t sa n c ht' kh H h0 (by omega), elem_of ht, run_size hI]
    rfl
  · have := rs_sliced hr 0 H.toNat (by omega) (by omega)
    simpa using this
theorem step_slice_both (hw : Region.wanted o (yielded ops a.tmps) = true) (t : TypeId) (x lo hi : Operand) (ho : o.op = .slice t x (some lo) (some hi) none) {e : TypeId} (ht : P.underlying t = some (.slice e)) {z : Option Value} {size bytes : Nat} (hI : (P.info? e).map (fun i => (i.zero, i.size, i.bytes)) = some (z, size, bytes))
    (sa : Option Addr) (n c : Nat) (hx : a.eval x = .slice sa n c) (kl kh : IntKind) (L H : Int) (hl : a.eval lo = .int kl L) (hh : a.eval hi = .int kh H) {xs : List Value} {W' : World} (hr : Rs W' size sa n c xs) (h0 : 0 ≤ L) (h01 : L ≤ H) (h1 : H ≤ n) (l h : Nat) (hL : L.toNat = l) (hH : H.toNat = h)
    (k : ∀ a' c', Rs W' size a' (h - l) c' ((xs.drop (l * size)).take ((h - l) * size)) → wpList P ops Q rest (a.put o.dst (.slice a' (h - l) c')) w) : wpList P ops Q (o :: rest) a w := by
  subst hL hH
  have hc := hr.cap
  refine wpList_val hw (val_of (s := Instr.sliceAt t (a.eval x) (some (a.eval lo)) (some (a.eval hi)) none) (by unfold execOp; rw [ho]; rfl) ?_) (k _ _ (rs_sliced hr L.toNat H.toNat (by omega) (by omega)))
  have ht' : P.underlying t = some (.slice (P.elem t)) := by rw [elem_of ht]; exact ht
  rw [hx, hl, hh, run_sliceAt_slice w t _ _ _ _ ht', run_slice_lh w t sa n c ht' kl kh L H h0 h01 (by omega), elem_of ht, run_size hI]
  rfl
/-- A piece of an own row: the row is only read from now on. -/
theorem step_cut_lo (hw : Region.wanted o (yielded ops a.tmps) = true) (t : TypeId) (x lo : Operand) (ho : o.op = .slice t x (some lo) none none) {e : TypeId} (ht : P.underlying t = some (.slice e)) {z : Option Value} {size bytes : Nat} (hI : (P.info? e).map (fun i => (i.zero, i.size, i.bytes)) = some (z, size, bytes))
    (sa : Option Addr) (n c : Nat) (hx : a.eval x = .slice sa n c) (kl : IntKind) (L : Int) (hl : a.eval lo = .int kl L) {xs : List Value} {E : TypeId} (hH : Heap B w own ro) (i : Nat) (hi : own[i]? = some (.row sa n c E size xs)) (h0 : 0 ≤ L) (h1 : L ≤ n) (l : Nat) (hL : L.toNat = l)
    (k : ∀ a' c', Heap B w (own.eraseIdx i) ((fun w => Rs w size a' (n - l) c' (xs.drop (l * size))) :: ro) → wpList P ops Q rest (a.put o.dst (.slice a' (n - l) c')) w) : wpList P ops Q (o :: rest) a w := by
  subst hL
  have key : ∀ w, Rs w size sa n c xs → Rs w size (if c = L.toNat then sa else sa.map (·.add (L.toNat * size))) (n - L.toNat) (c - L.toNat) (xs.drop (L.toNat * size)) := fun w hr => by
    have := rs_sliced hr L.toNat n (by omega) (Nat.le_refl _)
    rw [List.take_of_length_le] at this
    · exact this
    · rw [List.length_drop, hr.len, Nat.sub_mul]; exact Nat.le_refl _
  refine wpList_val hw (val_of (s := Instr.sliceAt t (a.eval x) (some (a.eval lo)) none none) (by unfold execOp; rw [ho]; rfl) ?_) (k (if c = L.toNat then sa else sa.map (·.add (L.toNat * size))) (c - L.toNat) ((hH.freeze i hi).weak key))
  have ht' : P.underlying t = some (.slice (P.elem t)) := by rw [elem_of ht]; exact ht
  rw [hx, hl, run_sliceAt_slice w t _ _ _ _ ht', run_slice_l w t sa n c ht' kl L h0 h1, elem_of ht, run_size hI]
  rfl
theorem step_cut_hi (hw : Region.wanted o (yielded ops a.tmps) = true) (t : TypeId) (x hi : Operand) (ho : o.op = .slice t x none (some hi) none) {e : TypeId} (ht : P.underlying t = some (.slice e)) {z : Option Value} {size bytes : Nat} (hI : (P.info? e).map (fun i => (i.zero, i.size, i.bytes)) = some (z, size, bytes))
    (sa : Option Addr) (n c : Nat) (hx : a.eval x = .slice sa n c) (kh : IntKind) (H : Int) (hh : a.eval hi = .int kh H) {xs : List Value} {E : TypeId} (hH : Heap B w own ro) (i : Nat) (hi' : own[i]? = some (.row sa n c E size xs)) (h0 : 0 ≤ H) (h1 : H ≤ n) (h : Nat) (hHh : H.toNat = h)
    (k : ∀ a' c', Heap B w (own.eraseIdx i) ((fun w => Rs w size a' h c' (xs.take (h * size))) :: ro) → wpList P ops Q rest (a.put o.dst (.slice a' h c')) w) : wpList P ops Q (o :: rest) a w := by
  subst hHh
  have hc := (hH.row i hi').cap
  have key : ∀ w, Rs w size sa n c xs → Rs w size (if c = 0 then sa else sa.map (·.add (0 * size))) H.toNat (c - 0) (xs.take (H.toNat * size)) := fun w hr => by
    have := rs_sliced hr 0 H.toNat (by omega) (by omega)
    simpa using this
  refine wpList_val hw (val_of (s := Instr.sliceAt t (a.eval x) none (some (a.eval hi)) none) (by unfold execOp; rw [ho]; rfl) ?_) (k (if c = 0 then sa else sa.map (·.add (0 * size))) (c - 0) ((hH.freeze i hi').weak key))
  have ht' : P.underlying t = some (.slice (P.elem t)) := by rw [elem_of ht]; exact ht
  rw [hx, hh, run_sliceAt_slice w t _ _ _ _ ht', run_slice_h w t sa n c ht' kh H h0 (by omega), elem_of ht, run_size hI]
  rfl
/-- A slice that is typed out: []T{}. -/
theorem step_lit0 (hw : Region.wanted o (yielded ops a.tmps) = true) (t : TypeId) (ho : o.op = .buildSlice t 0 #[]) {e : TypeId} (ht : P.underlying t = some (.slice e)) {z : Option Value} {size bytes : Nat} (hI : (P.info? e).map (fun i => (i.zero, i.size, i.bytes)) = some (z, size, bytes))
    (hH : Heap B w own ro) (k : ∀ a' w', Heap B w' (.row a' 0 0 e size [] :: own) ro → Below B w w' → wpList P ops Q rest (a.put o.dst (.slice a' 0 0)) w') : wpList P ops Q (o :: rest) a w := by
  refine wpList_val hw (v := .slice (some ⟨w.heap.size, 0, none⟩) 0 0) (w' := w.alloc (.cells #[] e)) ?_ (k _ _ (hH.alloc_row [] e size 0 (by simp) (Nat.zero_le _)) ((Below.refl _ _).alloc hH.le.1 _))
  refine val_of (s := Instr.buildSlice t 0 #[]) (by unfold execOp; rw [ho]; simp) ?_
  cases hin : P.info? e with
  | none => rw [hin] at hI; simp at hI
  | some inf =>
    simp [Instr.buildSlice, run_underlying ht, sizeOf, typeInfo, hin, Result.andThen, Instr.fill, newRow]
    exact congrArg (fun c => w.alloc (Obj.cells c e)) (Array.eq_empty_of_size_eq_zero (by simp))
/-- .. with values. -/
theorem step_lit (hw : Region.wanted o (yielded ops a.tmps) = true) (t : TypeId) (len : Nat) (parts : Array (Nat × Operand)) (ho : o.op = .buildSlice t len parts) {e : TypeId} (ht : P.underlying t = some (.slice e)) {z : Value} {size bytes : Nat} (hI : (P.info? e).map (fun i => (i.zero, i.size, i.bytes)) = some (some z, size, bytes))
    (vs : List Value) (hfill : Instr.fill (fun i => some (i * size, size)) ((Array.range (len * size)).map (z.cells[· % z.cells.size]!)) (parts.map (fun (i, x) => (i, a.eval x))).toList = some vs.toArray) (hl : vs.length = len * size) (h0 : len * size ≠ 0) (hm : len * size ≤ 16777216) (hn : len ≤ 16777216)
    (hH : Heap B w own ro) (k : ∀ a' w', Heap B w' (.row a' len len e size vs :: own) ro → Below B w w' → wpList P ops Q rest (a.put o.dst (.slice a' len len)) w') : wpList P ops Q (o :: rest) a w := by
  refine wpList_val hw (v := .slice (some ⟨w.heap.size, 0, none⟩) len len) (w' := w.alloc (.cells vs.toArray e)) ?_ (k _ _ (hH.alloc_row vs e size len hl (by simp only [maxLen]; omega)) ((Below.refl _ _).alloc hH.le.1 _))
  refine val_of (s := Instr.buildSlice t len (parts.map (fun (i, x) => (i, a.eval x)))) (by unfold execOp; rw [ho]) ?_
  cases hin : P.info? e with
  | none => rw [hin] at hI; simp at hI
  | some inf =>
    rw [hin] at hI
    simp only [Option.map_some, Option.some.injEq, Prod.mk.injEq] at hI
    obtain ⟨hz, hs, hb⟩ := hI
    have e1 : (sizeOf e).run P w = .ok size w := by simp [sizeOf, typeInfo, hin, hs]
    have e2 : (zeroValue e).run P w = .ok z w := by simp [zeroValue, typeInfo, hin, hz]
    have hm' : ¬ (len * size > 2 ^ 24) := by omega
    simp only [Instr.buildSlice, Sem.run_bind, run_underlying ht, Result.andThen_ok, e1, if_neg hm', if_neg h0, e2, Sem.run_pure, hfill]
    simp [newRow, Result.andThen]

/-! rows of typed elements: xs = l.flatMap enc -/
theorem step_load_elem (hw : Region.wanted o (yielded ops a.tmps) = true) (T : TypeId) (x : Operand) (ho : o.op = .load T x) {d : TypeDesc} (hu : P.underlying T = some d) (hd : (match d with | .struct _ | .array _ _ => true | _ => false) = false)
    (p : Addr) (q j : Nat) (hx : a.eval x = .pointer (some (p.add (q + j)))) {cs : List Value} (hE : ∀ j u, cs[j]? = some u → w.cell? (p.add (q + j)) = some u) (u : Value) (hc : cs[j]? = some u) (k : wpList P ops Q rest (a.put o.dst u) w) : wpList P ops Q (o :: rest) a w :=
  step_load hw T x ho hu hd _ hx u (hE j u hc) k
theorem step_load_elem_agg (hw : Region.wanted o (yielded ops a.tmps) = true) (T : TypeId) (x : Operand) (ho : o.op = .load T x) {d : TypeDesc} (hu : P.underlying T = some d) (hd : (match d with | .struct _ | .array _ _ => true | _ => false) = true)
    {z : Option Value} {size bytes : Nat} (hI : (P.info? T).map (fun i => (i.zero, i.size, i.bytes)) = some (z, size, bytes)) (p : Addr) (q j : Nat) (hx : a.eval x = .pointer (some (p.add (q + j)))) {cs : List Value} (hE : ∀ j u, cs[j]? = some u → w.cell? (p.add (q + j)) = some u)
    (us : List Value) (hus : (cs.drop j).take size = us) (hl : us.length = size) (k : wpList P ops Q rest (a.put o.dst (.agg us.toArray)) w) : wpList P ops Q (o :: rest) a w := by
  refine step_load_agg hw T x ho hu hd hI _ hx us hl (fun i u hi => ?_) k
  rw [add_add, Nat.add_assoc]
  refine hE _ _ ?_
  rw [← hus, List.getElem?_take] at hi
  split at hi
  · rwa [List.getElem?_drop] at hi
  · cases hi
theorem flat_len {α : Type} {enc : α → List Value} {size : Nat} : ∀ (l : List α), (∀ x ∈ l, (enc x).length = size) → (l.flatMap enc).length = l.length * size
  | [], _ => by simp
  | x :: l, h => by rw [List.flatMap_cons, List.length_append, h x (List.mem_cons_self ..), flat_len l fun y hy => h y (List.mem_cons_of_mem _ hy), List.length_cons, Nat.succ_mul]; omega
theorem flat_set {α : Type} {enc : α → List Value} {size : Nat} : ∀ (l : List α) (k : Nat) (x : α), (∀ x ∈ l, (enc x).length = size) → k < l.length →
    (l.set k x).flatMap enc = (l.flatMap enc).take (k * size) ++ enc x ++ (l.flatMap enc).drop (k * size + size)
  | [], k, x, _, h => by simp at h
  | y :: l, 0, x, h, _ => by
    have hy := h y (List.mem_cons_self ..)
    simp only [List.set_cons_zero, List.flatMap_cons, Nat.zero_mul, List.take_zero, List.nil_append, Nat.zero_add]
    rw [← hy, List.drop_left]
  | y :: l, k + 1, x, h, hk => by
    have hy := h y (List.mem_cons_self ..)
    have ih := flat_set l k x (fun z hz => h z (List.mem_cons_of_mem _ hz)) (by simpa using hk)
    simp only [List.set_cons_succ, List.flatMap_cons]
    rw [ih, show (k + 1) * size = (enc y).length + k * size by rw [hy, Nat.succ_mul]; omega, List.take_length_add_append, Nat.add_assoc, List.drop_length_add_append, List.append_assoc, List.append_assoc, List.append_assoc]
theorem step_lit0_l (hw : Region.wanted o (yielded ops a.tmps) = true) (t : TypeId) (ho : o.op = .buildSlice t 0 #[]) {e : TypeId} (ht : P.underlying t = some (.slice e)) {z : Option Value} {size bytes : Nat} (hI : (P.info? e).map (fun i => (i.zero, i.size, i.bytes)) = some (z, size, bytes))
    {α : Type} (enc : α → List Value) (hH : Heap B w own ro) (k : ∀ a' w', Heap B w' (.row a' 0 0 e size (([] : List α).flatMap enc) :: own) ro → Below B w w' → wpList P ops Q rest (a.put o.dst (.slice a' 0 0)) w') : wpList P ops Q (o :: rest) a w :=
  step_lit0 hw t ho ht hI hH k
/-- append, of typed elements. -/
theorem made_flat {α : Type} {enc : α → List Value} {size : Nat} {z : Array Value} {x : α} (hz : z.toList = enc x) (hs : (enc x).length = size) (n : Nat) : (madeCells z (n * size)).toList = (List.replicate n x).flatMap enc := by
  have hzs : z.size = size := by rw [← hs, ← hz]; simp
  by_cases h0 : size = 0
  · have : enc x = [] := List.eq_nil_of_length_eq_zero (by omega)
    subst h0
    have : (List.replicate n x).flatMap enc = [] := by simp [this]
    rw [this]; simp [madeCells]
  have key : ∀ m, (List.range (m * size)).map (fun i => z[i % z.size]!) = (List.replicate m x).flatMap enc := by
    intro m
    induction m with
    | zero => simp
    | succ m ih =>
      rw [List.replicate_succ', List.flatMap_append, ← ih, Nat.succ_mul, List.range_add, List.map_append, List.map_map]
      congr 1
      rw [List.flatMap_cons, List.flatMap_nil, List.append_nil, ← hz]
      apply List.ext_getElem
      · simp [hzs]
      · intro i h1 h2
        have hi : i < size := by simpa using h1
        simp only [List.getElem_map, List.getElem_range, Function.comp]
        rw [hzs, Nat.mul_comm m size, Nat.mul_add_mod, Nat.mod_eq_of_lt hi, getElem!_pos z i (by omega)]
        simp
  rw [madeCells]
  simp only [Array.toList_map, Array.toList_range]
  exact key n
theorem step_make_l (hw : Region.wanted o (yielded ops a.tmps) = true) (t : TypeId) (l c : Operand) (ho : o.op = .makeSlice t l c) {e : TypeId} (ht : P.underlying t = some (.slice e)) {z : Value} {size bytes : Nat} (hI : (P.info? e).map (fun i => (i.zero, i.size, i.bytes)) = some (some z, size, bytes))
    {α : Type} {enc : α → List Value} (x : α) (hz : z.cells.toList = enc x) (hs : (enc x).length = size)
    (kl kc : IntKind) (L C : Int) (hl : a.eval l = .int kl L) (hc : a.eval c = .int kc C) (n : Nat) (hL : L = (n : Int)) (hC : C = (n : Int)) (b2 : bytes * n ≤ 281474976710656) (b3 : n ≤ maxLen)
    (hH : Heap B w own ro) (k : ∀ a' w', Heap B w' (.row a' n n e size ((List.replicate n x).flatMap enc) :: own) ro → Below B w w' → wpList P ops Q rest (a.put o.dst (.slice a' n n)) w') : wpList P ops Q (o :: rest) a w :=
  step_make hw t l c ho ht hI kl kc L C hl hc n hL hC b2 b3 hH (by rw [made_flat hz hs]; exact k)
theorem step_append_l (hw : Region.wanted o (yielded ops a.tmps) = true) (s x : Operand) (t : TypeId) (ho : o.op = .call { callee := .builtin .append, args := #[s, x], argTypes := #[t, t] })
    {e : TypeId} (ht : P.underlying t = some (.slice e)) {z : Value} {size bytes : Nat} (hI : (P.info? e).map (fun i => (i.zero, i.size, i.bytes)) = some (some z, size, bytes)) (hzs : z.cells.size = size)
    (hH : Heap B w own ro) (j : Nat) {sa : Option Addr} {n c : Nat} {α : Type} {enc : α → List Value} {l : List α} (hj : own[j]? = some (.row sa n c e size (l.flatMap enc))) (hs : a.eval s = .slice sa n c)
    (xa : Option Addr) (m xc : Nat) (hx : a.eval x = .slice xa m xc) {l' : List α} (hr : Rs w size xa m xc (l'.flatMap enc)) (h1 : ∀ x, ∀ u ∈ enc x, u.oneCell' = true) (b1 : n + m ≤ maxLen) (b2 : (n + m) * bytes ≤ 140737488355328)
    (k : ∀ a' c' w', Heap B w' (own.set j (.row a' (n + m) c' e size ((l ++ l').flatMap enc))) ro → Below B w w' → wpList P ops Q rest (a.put o.dst (.slice a' (n + m) c')) w') : wpList P ops Q (o :: rest) a w :=
  step_append hw s x t ho ht hI hzs hH j hj hs xa m xc hx hr (fun u hu => by obtain ⟨y, _, hy⟩ := List.mem_flatMap.1 hu; exact h1 y u hy) b1 b2 (by rw [← List.flatMap_append]; exact k)
/-- A whole element is stored. -/
theorem step_put_l (hw : Region.wanted o (yielded ops a.tmps) = true) (T : TypeId) (x y : Operand) (ho : o.op = .store T x y) (sa : Option Addr) (i : Nat) {size : Nat} (hx : a.eval x = .pointer (some ((adr sa).add (i * size + 0)))) (v : Value) (hy : a.eval y = v)
    {α : Type} {enc : α → List Value} (e : α) (hv : v.cells = (enc e).toArray) {z : Option Value} {bytes : Nat} (hI : (P.info? T).map (fun i => (i.zero, i.size, i.bytes)) = some (z, size, bytes)) (h1 : ∀ x, ∀ u ∈ enc x, u.oneCell' = true) (hsz : ∀ x, (enc x).length = size) (h0 : 0 < size)
    (hH : Heap B w own ro) (j : Nat) {n c : Nat} {E : TypeId} {l : List α} (hj : own[j]? = some (.row sa n c E size (l.flatMap enc))) (hn : n = l.length) (hi : i < n)
    (k : ∀ w', Heap B w' (own.set j (.row sa n c E size ((l.set i e).flatMap enc))) ro → Below B w w' → wpList P ops Q rest (a.put o.dst undef) w') : wpList P ops Q (o :: rest) a w := by
  subst hn
  have hm : i * size + size ≤ l.length * size := by rw [← Nat.succ_mul]; exact Nat.mul_le_mul_right _ hi
  refine step_put hw T x y ho sa (i * size) (by simpa using hx) v hy (enc e) hv hI (hsz e) (h1 e) hH j hj (by rw [hsz]; exact hm) (fun he => by have := hsz e; rw [he] at this; simp at this; omega) ?_
  rw [hsz, ← flat_set l i e (fun x _ => hsz x) hi]
  exact k
/-- A cell of an element is stored: the element turns into e'. -/
theorem step_put_f (hw : Region.wanted o (yielded ops a.tmps) = true) (T : TypeId) (x y : Operand) (ho : o.op = .store T x y) (sa : Option Addr) (i f : Nat) {size : Nat} (hx : a.eval x = .pointer (some ((adr sa).add (i * size + f)))) (v : Value) (hy : a.eval y = v) (vs : List Value) (hv : v.cells = vs.toArray)
    {z : Option Value} {tsize bytes : Nat} (hI : (P.info? T).map (fun i => (i.zero, i.size, i.bytes)) = some (z, tsize, bytes)) (hl : vs.length = tsize) (h1 : ∀ u ∈ vs, u.oneCell' = true) (hne : vs ≠ [])
    {α : Type} {enc : α → List Value} (hsz : ∀ x, (enc x).length = size) (hH : Heap B w own ro) (j : Nat) {n c : Nat} {E : TypeId} {l : List α} (hj : own[j]? = some (.row sa n c E size (l.flatMap enc))) (hn : n = l.length) (hi : i < n)
    (e e' : α) (he : l[i]? = some e) (hf : f + vs.length ≤ size) (he' : enc e' = (enc e).take f ++ vs ++ (enc e).drop (f + vs.length))
    (k : ∀ w', Heap B w' (own.set j (.row sa n c E size ((l.set i e').flatMap enc))) ro → Below B w w' → wpList P ops Q rest (a.put o.dst undef) w') : wpList P ops Q (o :: rest) a w := by
  subst hn
  have hm : i * size + size ≤ l.length * size := by rw [← Nat.succ_mul]; exact Nat.mul_le_mul_right _ hi
  refine step_put hw T x y ho sa (i * size + f) hx v hy vs hv hI hl h1 hH j hj (by omega) hne ?_
  have key : (l.flatMap enc).take (i * size + f) ++ vs ++ (l.flatMap enc).drop (i * size + f + vs.length) = (l.set i e').flatMap enc := by
    have h2 : l.set i e = l := by
      apply List.ext_getElem?
      intro m
      rw [List.getElem?_set]
      split
      · rename_i h; subst h; first | exact he.symm | (rw [if_pos hi]; exact he.symm)
      · rfl
    have h3 := flat_set l i e (fun x _ => hsz x) hi
    rw [h2] at h3
    rw [flat_set l i e' (fun x _ => hsz x) hi, he']
    generalize hA : (l.flatMap enc).take (i * size) = A at h3
    generalize hD : (l.flatMap enc).drop (i * size + size) = D at h3
    have hAl : A.length = i * size := by rw [← hA, List.length_take, flat_len l fun x _ => hsz x]; omega
    have hel := hsz e
    rw [h3, List.append_assoc A, ← hAl, List.take_length_add_append, Nat.add_assoc, List.drop_length_add_append, List.take_append_of_le_length (by omega), List.drop_append_of_le_length (by omega)]
    simp only [List.append_assoc]
  rw [key]
  exact k

theorem places_run (w : World) : ∀ (fs : List Field) (ps : List (Nat × Nat)), fs.map (fun f => (f.offset, (P.info? f.type).map (·.size))) = ps.map (fun x => (x.1, some x.2)) →
    (fs.mapM (fun f => (do pure (f.offset, ← sizeOf f.type) : Sem (Nat × Nat)))).run P w = .ok ps w
  | [], [], _ => rfl
  | [], _ :: _, h => by simp at h
  | _ :: _, [], h => by simp at h
  | f :: fs, x :: ps, h => by
    simp only [List.map_cons, List.cons.injEq, Prod.mk.injEq] at h
    obtain ⟨⟨h1, h2⟩, h3⟩ := h
    have ih := places_run w fs ps h3
    have hs : (sizeOf f.type).run P w = .ok x.2 w := by
      cases hi : P.info? f.type with
      | none => rw [hi] at h2; simp at h2
      | some i => rw [hi] at h2; simp at h2; simp [sizeOf, typeInfo, hi, h2]
    rw [List.mapM_cons]
    simp only [Sem.run_bind, hs, Result.andThen_ok, Sem.run_pure, ih, h1]
/-- 'fill', over lists: it reckons. -/
def fillL (places : List (Nat × Nat)) : List Value → List (Nat × Value) → Option (List Value)
  | cells, [] => some cells
  | cells, (i, v) :: rest =>
    match places[i]? with
    | none => none
    | some (off, size) => if v.cells.toList.length = size ∧ off + v.cells.toList.length ≤ cells.length then fillL places (cells.take off ++ v.cells.toList ++ cells.drop (off + v.cells.toList.length)) rest else none
theorem fold_set : ∀ (l : List Value) (k off : Nat) (cells : Array Value), off + k + l.length ≤ cells.size →
    ((l.zipIdx k).foldl (fun cs (x : Value × Nat) => cs.setIfInBounds (off + x.2) x.1) cells).toList = cells.toList.take (off + k) ++ l ++ cells.toList.drop (off + k + l.length)
  | [], k, off, cells, h => by simp
  | v :: l, k, off, cells, h => by
    simp only [List.length_cons] at h
    have ih := fold_set l (k + 1) off (cells.setIfInBounds (off + k) v) (by simp; omega)
    rw [List.zipIdx_cons, List.foldl_cons, ih]
    simp only [Array.toList_setIfInBounds, List.length_cons]
    have hlt : off + k < cells.toList.length := by simp; omega
    rw [List.take_set, List.drop_set_of_lt (by omega)]
    have e1 : (cells.toList.take (off + (k + 1))).set (off + k) v = cells.toList.take (off + k) ++ [v] := by
      rw [show off + (k + 1) = off + k + 1 by omega, List.take_succ_eq_append_getElem hlt, List.set_append_right _ _ (by simp; omega)]
      simp [Nat.min_eq_left (Nat.le_of_lt (by simpa using hlt))]
    rw [e1, show off + (k + 1) + l.length = off + k + (l.length + 1) by omega]
    simp
theorem fill_of {places : List (Nat × Nat)} : ∀ (ps : List (Nat × Value)) (cells cs : List Value), fillL places cells ps = some cs → Instr.fill (places.toArray[·]?) cells.toArray ps = some cs.toArray
  | [], cells, cs, h => by simp [fillL] at h; subst h; rfl
  | (i, v) :: ps, cells, cs, h => by
    unfold fillL at h
    unfold Instr.fill
    cases hp : places[i]? with
    | none => rw [hp] at h; cases h
    | some x =>
      obtain ⟨off, size⟩ := x
      rw [hp] at h
      simp only at h
      split at h
      · rename_i hc
        have hc1 : v.cells.size = size := by simpa using hc.1
        have hc2 : off + v.cells.size ≤ cells.length := by simpa using hc.2
        simp only [List.getElem?_toArray, hp]
        rw [if_neg (by simp [hc1]; omega)]
        have ih := fill_of ps _ cs h
        have hf := fold_set v.cells.toList 0 off cells.toArray (by simp; omega)
        have e : v.cells.zipIdx.foldl (fun cs (x : Value × Nat) => cs.setIfInBounds (off + x.2) x.1) cells.toArray = (cells.take off ++ v.cells.toList ++ cells.drop (off + v.cells.toList.length)).toArray := by
          apply Array.toList_inj.1
          rw [← Array.foldl_toList, Array.toList_zipIdx]
          simpa using hf
        rw [← ih]
        simp only [List.getElem?_toArray]
        exact congrArg (fun c => Instr.fill (places[·]?) c ps) e
      · cases h
/-- A struct that is typed out. -/
theorem step_build (hw : Region.wanted o (yielded ops a.tmps) = true) (T : TypeId) (parts : Array (Nat × Operand)) (ho : o.op = .build T parts) {fs : Array Field} (hu : P.underlying T = some (.struct fs)) {z : Value} {size bytes : Nat} (hI : (P.info? T).map (fun i => (i.zero, i.size, i.bytes)) = some (some z, size, bytes))
    (places : List (Nat × Nat)) (hp : fs.toList.map (fun f => (f.offset, (P.info? f.type).map (·.size))) = places.map (fun x => (x.1, some x.2))) (zs : List Value) (hz : z.cells = zs.toArray) (cs : List Value) (hf : fillL places zs (parts.toList.map (fun x => (x.1, a.eval x.2))) = some cs)
    (k : wpList P ops Q rest (a.put o.dst (.agg cs.toArray)) w) : wpList P ops Q (o :: rest) a w := by
  refine wpList_val hw (val_of (s := Instr.build T (parts.map (fun (i, x) => (i, a.eval x)))) (by unfold execOp; rw [ho]) ?_) k
  cases hi : P.info? T with
  | none => rw [hi] at hI; simp at hI
  | some i =>
    rw [hi] at hI
    simp at hI
    have e2 : (zeroValue T).run P w = .ok z w := by simp [zeroValue, typeInfo, hi, hI.1]
    have e3 : (fs.mapM (fun f => (do pure (f.offset, ← sizeOf f.type) : Sem (Nat × Nat)))).run P w = .ok places.toArray w := by
      have := places_run (P := P) w fs.toList places hp
      rw [Array.mapM_eq_mapM_toList, map_eq_pure_bind]
      simp only [Sem.run_bind, this, Result.andThen_ok, Sem.run_pure]
    have e4 := fill_of _ _ _ hf
    have e5 : (parts.map (fun (i, x) => (i, a.eval x))).toList = parts.toList.map (fun x => (x.1, a.eval x.2)) := by simp
    simp only [Instr.build, Sem.run_bind, e2, Result.andThen_ok, run_underlying hu, e3, hz, e5, e4, Sem.run_pure]
/-! calls -/
theorem run_fun {f : FuncId} {fn : Func} (hf : P.funcs[f]? = some fn) (hn : (fn.name == "runtime.NumGoroutine") = false) (hb : fn.body.isNone = false) {args : Array Operand} {tys : Array TypeId}
    (ho : o.op = .call { callee := .value (.func f), args := args, argTypes := tys }) (vs : List Value) (hv : args.toList.map a.eval = vs) (w : World) : (execOp a.eval o).run P w = .ok (.enter f vs.toArray) w := by
  have e : Array.map a.eval args = vs.toArray := by rw [← hv]; apply Array.toList_inj.1; simp
  unfold execOp
  simp only [ho, resolve, Act.eval, Deferred.ofValue, Sem.run_bind, Sem.run_pure, Result.andThen_ok, invoke, callFunc]
  have hn' : ¬ fn.name = "runtime.NumGoroutine" := by simpa using hn
  have hb' : ¬ fn.body = none := fun h => by rw [h] at hb; simp at hb
  simp [hf, hn', hb', Sem.run, e]
/-- What a call gives: a value, and what is its own. -/
structure Shp (α : Type) where
  val : α → Value
  res : α → List Res
  ro : α → List (World → Prop) := fun _ => []
/-- .. that turns nothing of what was. -/
def Gives {α : Type} (S : Shp α) (W : World) (e : Ending) (w' : World) : Prop :=
  ∃ x, e = .returned (S.val x) ∧ Below W.heap.size W w' ∧ Hp W.heap.size w'.heap.size w' (S.res x) (S.ro x)
theorem step_call (hw : Region.wanted o (yielded ops a.tmps) = true) {f : FuncId} {args : Array Value} (hr : ∀ w, (execOp a.eval o).run P w = .ok (.enter f args) w) {α : Type} {S : Shp α}
    (hH : Heap B w own ro) (hc : Calls P f args w (Gives S w)) (k : ∀ x w', Heap B w' (S.res x ++ own) (S.ro x ++ ro) → Below B w w' → wpList P ops Q rest (a.put o.dst (S.val x)) w') : wpList P ops Q (o :: rest) a w := by
  refine wpList_do hw fun K hK => ?_
  unfold Oper.wp
  rw [hr]
  refine Calls.mono hc ?_
  rintro e w' ⟨x, rfl, hb, hn⟩
  exact hK _ _ (k x w' (hH.call hb hn) (hb.mono hH.le.1))
/-- A call that turns what its caller owns. -/
def Turns {α : Type} (B : Nat) (ro : List (World → Prop)) (val : α → Value) (own' : α → List Res) (W : World) (e : Ending) (w' : World) : Prop :=
  ∃ x, e = .returned (val x) ∧ Below B W w' ∧ Heap B w' (own' x) ro
theorem step_turn (hw : Region.wanted o (yielded ops a.tmps) = true) {f : FuncId} {args : Array Value} (hr : ∀ w, (execOp a.eval o).run P w = .ok (.enter f args) w) {α : Type} {val : α → Value} {own' : α → List Res} {ro' : List (World → Prop)}
    (hc : Calls P f args w (Turns B ro' val own' w)) (k : ∀ x w', Heap B w' (own' x) ro' → Below B w w' → wpList P ops Q rest (a.put o.dst (val x)) w') : wpList P ops Q (o :: rest) a w := by
  refine wpList_do hw fun K hK => ?_
  unfold Oper.wp
  rw [hr]
  refine Calls.mono hc ?_
  rintro e w' ⟨x, rfl, hb, hn⟩
  exact hK _ _ (k x w' hn hb)
/-- One operation of a region, walked as a list of its own. -/
theorem wp_of_list (hw : Region.wanted o (yielded ops a.tmps) = true) {K : Act → World → Prop} (h : wpList P ops (Calm fun _ a w => K a w) [o] a w) : o.wp P a w K (fun _ _ _ => False) := by
  unfold wpList at h
  rw [if_pos hw] at h
  rcases h with h | ⟨_, h⟩
  · unfold Oper.wp at h ⊢
    have := upon_over (P := P) (o := o) (a := a) (b := a) (G := fun a w => wpList P ops (Calm fun _ a w => K a w) [] a w) (K := K) (Q := fun _ a w => K a w) (Q' := fun _ _ _ => False) rfl h (fun D v w' hG => by
      unfold wpList at hG; exact hG.2)
    exact this
  · exact (asks_calm h).elim
variable {w0 : World} {Ss : List Cls} {F : Given} {T : List Oper}
theorem Chain.one (c : Value) (hw : Region.wanted o (yielded ops a.tmps) = true)
    (h : ∀ w, Below w0.heap.size w0 w → wpList P ops (Calm fun _ a' w' => a'.defers = a.defers ∧ Below w.heap.size w w' ∧ ∃ v, a' = a.put o.dst v ∧ v = c) [o] a w)
    (k : ∀ g, Chain P ops w0 Q Ss rest (a.put o.dst c) ((o.dst, c, g, .val c) :: F) T) : Chain P ops w0 Q (.head (.val c) :: Ss) (o :: rest) a F T :=
  Chain.pos c hw (fun w hb _ => wp_of_list hw (h w hb)) k
/-- Operations that give a value by themselves. -/
def plainOp : Op → Bool
  | .move _ | .pick _ _ _ | .build _ _ | .binOp _ _ _ _ _ | .unOp _ _ _ | .convert _ _ _ | .slice _ _ _ _ _ | .fieldAddr _ _ _ | .field _ _ _ | .indexAddr _ _ _ | .index _ _ _ | .extract _ _ | .makeInterface _ _ | .makeFunc _ _ _ => true
  | _ => false
theorem plain_run {o : Oper} (h : plainOp o.op = true) (ρ : Operand → Value) (P : Program) (w : World) : (∃ v w', (execOp ρ o).run P w = .ok (.value v) w') ∨ ∃ e w', (execOp ρ o).run P w = .halt e w' := by
  have key : ∀ s : Sem Value, (∃ v w', (do pure (Next.value (← s)) : Sem Next).run P w = .ok (.value v) w') ∨ ∃ e w', (do pure (Next.value (← s)) : Sem Next).run P w = .halt e w' := by
    intro s
    simp only [Sem.run_bind]
    cases s.run P w with
    | ok v w' => exact .inl ⟨v, w', by simp [Result.andThen]⟩
    | halt e w' => exact .inr ⟨e, w', by simp [Result.andThen]⟩
  unfold execOp
  cases ho : o.op with
  | pick c x y =>
    simp only [Sem.run_bind]
    cases (asBool (ρ c)).run P w with
    | ok v w' => exact .inl ⟨_, w', by simp [Result.andThen]; rfl⟩
    | halt e w' => exact .inr ⟨e, w', by simp [Result.andThen]⟩
  | move x => exact .inl ⟨_, _, rfl⟩
  | build | binOp | unOp | convert | slice | fieldAddr | field | indexAddr | index | extract | makeInterface | makeFunc => exact key _
  | _ => rw [ho] at h; exact absurd h (by simp [plainOp])
theorem put_inj {a : Act} {t : Nat} {v c : Value} (ht : t < a.tmps.size) (h : a.put (some t) v = a.put (some t) c) : v = c := by
  have := congrArg (fun x : Act => x.tmps[t]?) h
  simp only [put_get, if_true, ht] at this
  exact Option.some.inj this
theorem Chain.any (c : Value) (hw : Region.wanted o (yielded ops a.tmps) = true) (hp : plainOp o.op = true) {t : Nat} (hd : o.dst = some t) (ht : decide (t < a.tmps.size) = true)
    (h : ∀ w, wpList P ops (Calm fun _ a' w' => a'.defers = a.defers ∧ w' = w ∧ ∃ v, a' = a.put o.dst v ∧ v = c) [o] a w)
    (k : ∀ g, Chain P ops w0 Q Ss rest (a.put o.dst c) ((o.dst, c, g, .val c) :: F) T) : Chain P ops w0 Q (.free :: Ss) (o :: rest) a F T := by
  refine Chain.loose c hw (fun w => ?_) k
  have hh := wp_of_list hw (h w)
  unfold Oper.wp at hh
  rcases plain_run hp a.eval P w with ⟨v, w', e⟩ | ⟨x, w', e⟩
  · rw [e] at hh ⊢
    obtain ⟨_, rfl, v', h1, rfl⟩ := hh
    rw [hd] at h1
    rw [put_inj (by simpa using ht) h1]
  · rw [e] at hh
    cases x <;> exact hh.elim
def Vals {α : Type} (S : Shp α) (v : Value) : Prop := ∃ x, v = S.val x
def Owns {α : Type} (S : Shp α) (v : Value) (lo hi : Nat) (w : World) : Prop := ∃ x, v = S.val x ∧ Hp lo hi w (S.res x) (S.ro x)
def Shp.spec {α : Type} (S : Shp α) : Spec := .any (Vals S) (Owns S)
theorem Chain.gives {f : FuncId} {args : Array Value} {α : Type} {S : Shp α} (hw : Region.wanted o (yielded ops a.tmps) = true)
    (hr : ∀ w, (execOp a.eval o).run P w = .ok (.enter f args) w) (hc : ∀ w, Below w0.heap.size w0 w → (∀ x ∈ F, (∃ t, x.1 = Option.some t ∧ t ∈ o.looksAt ops) → x.2.2.2.fact x.2.1 x.2.2.1 w) → Calls P f args w (Gives S w)) (hne : Nonempty α)
    (k : ∀ x g, Chain P ops w0 Q Ss rest (a.put o.dst (S.val x)) ((o.dst, S.val x, g, S.spec) :: F) T) : Chain P ops w0 Q (.head S.spec :: Ss) (o :: rest) a F T := by
  refine Chain.given (Vals S) (Owns S) (by obtain ⟨x⟩ := hne; exact ⟨S.val x, x, rfl⟩) (fun v lo hi w w' hb h => ?_) hw (fun w hb hx => ?_) (fun v g hv => ?_)
  · obtain ⟨x, e, hp⟩ := h
    exact ⟨x, e, hp.later hb⟩
  · unfold Oper.wp
    rw [hr]
    refine Calls.mono (hc w hb hx) ?_
    rintro e w' ⟨x, rfl, hb', hn⟩
    exact ⟨by cases o.dst <;> rfl, hb', S.val x, rfl, ⟨x, rfl⟩, x, rfl, hn⟩
  · obtain ⟨x, rfl⟩ := hv
    exact k x g
/-- An operation that makes something of its own. -/
theorem Chain.fresh {α : Type} {S : Shp α} (hw : Region.wanted o (yielded ops a.tmps) = true)
    (h : ∀ w, Below w0.heap.size w0 w → (∀ x ∈ F, (∃ t, x.1 = Option.some t ∧ t ∈ o.looksAt ops) → x.2.2.2.fact x.2.1 x.2.2.1 w) →
      wpList P ops (Calm fun _ a' w' => a'.defers = a.defers ∧ ∃ x, a' = a.put o.dst (S.val x) ∧ Below w.heap.size w w' ∧ Hp w.heap.size w'.heap.size w' (S.res x) (S.ro x)) [o] a w) (hne : Nonempty α)
    (k : ∀ x g, Chain P ops w0 Q Ss rest (a.put o.dst (S.val x)) ((o.dst, S.val x, g, S.spec) :: F) T) : Chain P ops w0 Q (.head S.spec :: Ss) (o :: rest) a F T := by
  refine Chain.given (Vals S) (Owns S) (by obtain ⟨x⟩ := hne; exact ⟨S.val x, x, rfl⟩) (fun v lo hi w w' hb h => ?_) hw (fun w hb hx => ?_) (fun v g hv => ?_)
  · obtain ⟨x, e, hp⟩ := h
    exact ⟨x, e, hp.later hb⟩
  · refine Oper.wp_mono ?_ (wp_of_list hw (h w hb hx))
    rintro a' w' ⟨hd, x, ha, hb', hp⟩
    exact ⟨hd, hb', S.val x, ha, ⟨x, rfl⟩, x, rfl, hp⟩
  · obtain ⟨x, rfl⟩ := hv
    exact k x g
theorem Shp.facts {α : Type} {S : Shp α} {v : Value} {g : Nat × Nat} {w : World} (h : S.spec.fact v g w) : ∃ x, v = S.val x ∧ Hp g.1 g.2 w (S.res x) (S.ro x) := h

/-! the end of a call -/
def resOf (tmps : Array Value) (r : ResultVar) : Sem Value := match r with
  | .tmp t => pure (tmps.getD t undef)
  | .cell a t => do loadVar t (← asAddr (tmps.getD a undef))
theorem resOf_tmp {tmps : Array Value} (t : Nat) {v : Value} (h : tmps.getD t undef = v) : (resOf tmps (.tmp t)).run P w = .ok v w := by simp [resOf, h]
theorem resOf_cell {tmps : Array Value} (x : Nat) {T : TypeId} {p : Addr} {v : Value} (h : tmps.getD x undef = .pointer (some p)) (hv : (Instr.loadAt T (.pointer (some p))).run P w = .ok v w) : (resOf tmps (.cell x T)).run P w = .ok v w := by
  have h2 : (loadVar T p).run P w = (Instr.loadAt T (.pointer (some p))).run P w := by simp [Instr.loadAt, Instr.sureAddr]
  simp [resOf, h, asAddr, h2, hv, Result.andThen]
theorem results_eq (fn : Func) (tmps : Array Value) : results fn tmps = (do let vs ← fn.results.mapM (resOf tmps); pure (if h : vs.size = 1 then vs[0] else .tuple vs)) := rfl
section
variable {fn : Func} {R : Ending → World → Prop} {r1 r2 r3 r4 : ResultVar} {v1 v2 v3 v4 : Value}
theorem finish1 (hres : fn.results = #[r1]) (h1 : (resOf a.tmps r1).run P w = .ok v1 w) (hd : a.defers = []) (hR : R (.returned v1) w) : bodyPost P fn R .ret a w :=
  bodyPost_ret (by rw [results_eq, hres]; simp [h1, Result.andThen]) hd hR
theorem finish2 (hres : fn.results = #[r1, r2]) (h1 : (resOf a.tmps r1).run P w = .ok v1 w) (h2 : (resOf a.tmps r2).run P w = .ok v2 w) (hd : a.defers = []) (hR : R (.returned (.tuple #[v1, v2])) w) : bodyPost P fn R .ret a w :=
  bodyPost_ret (by rw [results_eq, hres]; simp [h1, h2, Result.andThen]) hd hR
theorem finish3 (hres : fn.results = #[r1, r2, r3]) (h1 : (resOf a.tmps r1).run P w = .ok v1 w) (h2 : (resOf a.tmps r2).run P w = .ok v2 w) (h3 : (resOf a.tmps r3).run P w = .ok v3 w) (hd : a.defers = []) (hR : R (.returned (.tuple #[v1, v2, v3])) w) : bodyPost P fn R .ret a w :=
  bodyPost_ret (by rw [results_eq, hres]; simp [h1, h2, h3, Result.andThen]) hd hR
theorem finish4 (hres : fn.results = #[r1, r2, r3, r4]) (h1 : (resOf a.tmps r1).run P w = .ok v1 w) (h2 : (resOf a.tmps r2).run P w = .ok v2 w) (h3 : (resOf a.tmps r3).run P w = .ok v3 w) (h4 : (resOf a.tmps r4).run P w = .ok v4 w) (hd : a.defers = []) (hR : R (.returned (.tuple #[v1, v2, v3, v4])) w) : bodyPost P fn R .ret a w :=
  bodyPost_ret (by rw [results_eq, hres]; simp [h1, h2, h3, h4, Result.andThen]) hd hR
end
theorem Heap.loads {own : List Res} (hH : Heap B w own ro) (i : Nat) {b : Nat} {T T' : TypeId} {cs : List Value} (hi : own[i]? = some (.box b T' cs)) {d : TypeDesc} (hu : P.underlying T = some d) (hd : (match d with | .struct _ | .array _ _ => true | _ => false) = true)
    {z : Option Value} {size bytes : Nat} (hI : (P.info? T).map (fun i => (i.zero, i.size, i.bytes)) = some (z, size, bytes)) (hl : cs.length = size) : (Instr.loadAt T (.pointer (some ⟨b, 0, none⟩))).run P w = .ok (.agg cs.toArray) w :=
  run_load_agg hu hd hI hl fun j u hj => by rw [add_at, Nat.zero_add]; exact hH.cell i hi j hj
end
end Go.Proofs.Ytkichjejadkdgaa
