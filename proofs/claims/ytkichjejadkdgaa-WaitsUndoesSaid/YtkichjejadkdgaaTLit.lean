/- Slices and structs that are typed out, pieces, fields of values, scalars, over trees. No program in sight. -/
import Derived.Test.YtkichjejadkdgaaTRow
namespace Go.Proofs.Ytkichjejadkdgaa
set_option linter.unusedVariables false
set_option linter.unusedSimpArgs false
set_option linter.unnecessarySimpa false
open Go.RowKit
/-- The parts of something that is typed out: each one's cells. -/
inductive Parts (n : Fr) (T : Nat → AV) : List (Nat × Operand) → List (Nat × List AV) → Prop
  | nil : Parts n T [] []
  | cons {i : Nat} {x : Operand} {cs : List AV} {ps : List (Nat × Operand)} {qs : List (Nat × List AV)} (h : (evA n T x).flat = some cs) (k : Parts n T ps qs) : Parts n T ((i, x) :: ps) ((i, cs) :: qs)
def fillA (places : List (Nat × Nat)) : List AV → List (Nat × List AV) → Option (List AV)
  | cells, [] => some cells
  | cells, (i, cs) :: rest =>
    match places[i]? with
    | none => none
    | some (off, size) => bif Nat.beq cs.length size && Nat.ble (off + cs.length) cells.length then fillA places (cells.take off ++ cs ++ cells.drop (off + cs.length)) rest else none
section
variable {w : World} {ρ : Rho} {Z Y : Nat → Prop}
theorem avs_splice {R : AV → Value → Prop} {cs us : List AV} {vs ws : List Value} {off : Nat} (h : AVs R cs vs) (g : AVs R us ws) (hf : off + us.length ≤ cs.length) : AVs R (cs.take off ++ us ++ cs.drop (off + us.length)) (vs.take off ++ ws ++ vs.drop (off + ws.length)) := by
  have h1 := h.len
  have g1 := g.len
  refine ⟨by simp only [List.length_append, List.length_take, List.length_drop]; omega, fun j x u hj hu => ?_⟩
  have e1 : (cs.take off).length = off := by rw [List.length_take]; omega
  have e2 : (vs.take off).length = off := by rw [List.length_take]; omega
  by_cases c1 : j < off
  · rw [List.append_assoc, List.getElem?_append_left (by omega), List.getElem?_take, if_pos c1] at hj hu
    exact h.at_ j x u hj hu
  · by_cases c2 : j < off + us.length
    · rw [List.append_assoc, List.getElem?_append_right (by omega), List.getElem?_append_left (by omega)] at hj hu
      rw [e1] at hj
      rw [e2] at hu
      exact g.at_ _ x u hj hu
    · rw [List.getElem?_append_right (by simp only [List.length_append]; omega), List.length_append, List.getElem?_drop] at hj hu
      rw [e1] at hj
      rw [e2] at hu
      rw [← g1] at hu
      exact h.at_ _ x u hj hu
theorem splice_one {vs ws : List Value} {off m : Nat} (h : ∀ u ∈ vs, u.oneCell' = true) (g : ∀ u ∈ ws, u.oneCell' = true) : ∀ u ∈ vs.take off ++ ws ++ vs.drop m, u.oneCell' = true := by
  intro u hu
  rcases List.mem_append.1 hu with hu | hu
  · rcases List.mem_append.1 hu with hu | hu
    · exact h u (List.mem_of_mem_take hu)
    · exact g u hu
  · exact h u (List.mem_of_mem_drop hu)
theorem fillA_open {e : Env} {n : Fr} {T : Nat → AV} {heap : List Ob} {a : Act} (hR : Rp e ⟨n, T, heap⟩ a w ρ Z Y) {places : List (Nat × Nat)} {ps : List (Nat × Operand)} {qs : List (Nat × List AV)} (hp : Parts n T ps qs) :
    ∀ {zs cs : List AV} {us : List Value}, fillA places zs qs = some cs → AVs (Val (Kn heap) ρ w Z Y) zs us → (∀ u ∈ us, u.oneCell' = true) →
      ∃ vs, fillL places us (ps.map (fun x => (x.1, a.eval x.2))) = some vs ∧ AVs (Val (Kn heap) ρ w Z Y) cs vs ∧ ∀ u ∈ vs, u.oneCell' = true := by
  induction hp with
  | nil => intro zs cs us h hv h1; cases h; exact ⟨us, rfl, hv, h1⟩
  | @cons i x cs' ps qs h k ih =>
    intro zs cs us hf hv h1
    obtain ⟨ws, g1, g2, g3⟩ := (hR.eval x).flat h
    unfold fillA at hf
    cases hpl : places[i]? with
    | none => rw [hpl] at hf; cases hf
    | some q =>
      obtain ⟨off, size⟩ := q
      rw [hpl] at hf
      simp only at hf
      cases hb : (Nat.beq cs'.length size && Nat.ble (off + cs'.length) zs.length) with
      | false => rw [hb] at hf; cases hf
      | true =>
        rw [hb] at hf
        simp only [cond_true] at hf
        rw [Bool.and_eq_true] at hb
        have b1 := Nat.eq_of_beq_eq_true hb.1
        have b2 := Nat.le_of_ble_eq_true hb.2
        have l1 := g2.len
        have l2 := hv.len
        obtain ⟨vs, q1, q2, q3⟩ := ih hf (avs_splice hv g2 b2) (splice_one h1 g3)
        refine ⟨vs, ?_, q2, q3⟩
        rw [List.map_cons]
        unfold fillL
        simp only [hpl, g1, List.size_toArray]
        rw [if_pos ⟨by omega, by omega⟩]
        exact q1
end
section
variable {P : Program} {ops : Array Oper} {Q : QS} {rest : List Oper} {o : Oper} {n : Fr} {T : Nat → AV} {heap : List Ob} {d : Nat}
/-- A struct that is typed out. -/
theorem A_build (hw : wantedA n T ops o = true) (hd : o.dst = some d) (t : TypeId) (parts : Array (Nat × Operand)) (ho : o.op = .build t parts) {fs : Array Field} (hu : P.underlying t = some (.struct fs)) {z : Value} {size bytes : Nat} (hI : (P.info? t).map (fun i => (i.zero, i.size, i.bytes)) = some (some z, size, bytes))
    (places : List (Nat × Nat)) (hp : fs.toList.map (fun f => (f.offset, (P.info? f.type).map (·.size))) = places.map (fun x => (x.1, some x.2))) {zs : List AV} (hz : (ofConst z).flat = some zs) {qs : List (Nat × List AV)} (hq : Parts n T parts.toList qs) {cs : List AV} (hf : fillA places zs qs = some cs)
    (k : AL P ops Q rest n (pu T d (.agg cs)) heap) : AL P ops Q (o :: rest) n T heap := by
  refine AL.val hw hd (fun en a w ρ Z Y hR => ?_) k
  obtain ⟨us, u1, u2, u3⟩ := (val_ofConst (Kn := Kn heap) (ρ := ρ) (w := w) (Z := Z) (Y := Y) z).flat hz
  obtain ⟨vs, q1, q2, q3⟩ := fillA_open hR hq hf u2 u3
  refine ⟨.agg vs.toArray, val_of (s := Instr.build t (parts.map (fun (i, x) => (i, a.eval x)))) (by unfold execOp; rw [ho]) ?_, .agg q2.len q3 q2.at_⟩
  obtain ⟨i, hi, hz', _, _⟩ := info_of hI
  have e2 : (zeroValue t).run P w = .ok z w := by simp [zeroValue, typeInfo, hi, hz']
  have e3 : (fs.mapM (fun f => (do pure (f.offset, ← sizeOf f.type) : Sem (Nat × Nat)))).run P w = .ok places.toArray w := by
    have := places_run (P := P) w fs.toList places hp
    rw [Array.mapM_eq_mapM_toList, map_eq_pure_bind]
    simp only [Sem.run_bind, this, Result.andThen_ok, Sem.run_pure]
  have e4 := fill_of _ _ _ q1
  have e5 : (parts.map (fun (i, x) => (i, a.eval x))).toList = parts.toList.map (fun x => (x.1, a.eval x.2)) := by simp
  simp only [Instr.build, Sem.run_bind, e2, Result.andThen_ok, run_underlying hu, e3, u1, e5, e4, Sem.run_pure]
/-- A field of a struct's value. -/
theorem A_get (hw : wantedA n T ops o = true) (hd : o.dst = some d) (t : TypeId) (x : Operand) (f : Nat) (ho : o.op = .field t x f) {fs : Array Field} (hu : P.underlying t = some (.struct fs)) {fd : Field} (hf : fs[f]? = some fd) {ds : TypeDesc} (ha : (match ds with | .struct _ | .array _ _ => true | _ => false) = false) (hds : P.underlying fd.type = some ds)
    {m : Nat} (hm : fd.offset = m) {l : List AV} (hx : evA n T x = .agg l) {u : AV} (hc : l[m]? = some u) (k : AL P ops Q rest n (pu T d u) heap) : AL P ops Q (o :: rest) n T heap := by
  subst hm
  refine AL.val hw hd (fun en a w ρ Z Y hR => ?_) k
  have hv := hR.eval x
  rw [hx] at hv
  generalize hax : a.eval x = vx at hv
  cases hv with
  | @agg _ us h1 h2 h3 =>
  have hlt := get_lt hc
  rw [h1] at hlt
  refine ⟨us[fd.offset], val_of (s := Instr.field t (a.eval x) f) (by unfold execOp; rw [ho]) ?_, h3 _ _ _ hc (List.getElem?_eq_getElem hlt)⟩
  have hag : (isAgg fd.type).run P w = .ok false w := by
    unfold isAgg
    rw [Sem.run_bind, run_underlying hds]
    cases ds <;> simp_all [Result.andThen]
  rw [hax]
  simp only [Instr.field, Sem.run_bind, run_underlying hu, Result.andThen_ok, hf, asAgg, part, hag]
  simp [List.getElem?_eq_getElem hlt, Result.andThen, hag]
theorem A_get_agg (hw : wantedA n T ops o = true) (hd : o.dst = some d) (t : TypeId) (x : Operand) (f : Nat) (ho : o.op = .field t x f) {fs : Array Field} (hu : P.underlying t = some (.struct fs)) {fd : Field} (hf : fs[f]? = some fd) {ds : TypeDesc} (ha : (match ds with | .struct _ | .array _ _ => true | _ => false) = true) (hds : P.underlying fd.type = some ds)
    {z : Option Value} {size bytes : Nat} (hI : (P.info? fd.type).map (fun i => (i.zero, i.size, i.bytes)) = some (z, size, bytes)) {m : Nat} (hm : fd.offset = m) {l : List AV} (hx : evA n T x = .agg l) {us' : List AV} (hc : (l.drop m).take size = us') (k : AL P ops Q rest n (pu T d (.agg us')) heap) : AL P ops Q (o :: rest) n T heap := by
  subst hm hc
  refine AL.val hw hd (fun en a w ρ Z Y hR => ?_) k
  have hv := hR.eval x
  rw [hx] at hv
  generalize hax : a.eval x = vx at hv
  cases hv with
  | @agg _ us h1 h2 h3 =>
  refine ⟨.agg ((us.drop fd.offset).take size).toArray, val_of (s := Instr.field t (a.eval x) f) (by unfold execOp; rw [ho]) ?_, .agg (by simp [h1]) (fun u hu => h2 u (List.mem_of_mem_drop (List.mem_of_mem_take hu))) (fun j x u hj hu => ?_)⟩
  · have hag : (isAgg fd.type).run P w = .ok true w := by
      unfold isAgg
      rw [Sem.run_bind, run_underlying hds]
      cases ds <;> simp_all [Result.andThen]
    rw [hax]
    simp only [Instr.field, Sem.run_bind, run_underlying hu, Result.andThen_ok, hf, asAgg, part, hag]
    have e : (us.toArray.extract fd.offset (fd.offset + size)) = ((us.drop fd.offset).take size).toArray := by
      apply Array.toList_inj.1
      simp [List.extract_eq_take_drop]
    simp [run_size hI, Result.andThen, e, hag]
  · rw [List.getElem?_take] at hj hu
    split at hj
    · rename_i hlt
      rw [if_pos hlt] at hu
      rw [List.getElem?_drop] at hj hu
      exact h3 _ x u hj hu
    · cases hj
/-- One of several results. -/
theorem A_extract (hw : wantedA n T ops o = true) (hd : o.dst = some d) (x : Operand) (f : Nat) (ho : o.op = .extract x f) {l : List AV} (hx : evA n T x = .tup l) {u : AV} (hc : l[f]? = some u) (k : AL P ops Q rest n (pu T d u) heap) : AL P ops Q (o :: rest) n T heap := by
  refine AL.val hw hd (fun en a w ρ Z Y hR => ?_) k
  have hv := hR.eval x
  rw [hx] at hv
  generalize hax : a.eval x = vx at hv
  cases hv with
  | @tup _ us h1 h3 =>
  have hlt := get_lt hc
  rw [h1] at hlt
  refine ⟨us[f], val_of (s := Instr.extract (a.eval x) f) (by unfold execOp; rw [ho]) ?_, h3 _ _ _ hc (List.getElem?_eq_getElem hlt)⟩
  rw [hax]
  simp [Instr.extract, List.getElem?_eq_getElem hlt]
/-! pieces -/
inductive Bd (n : Fr) (T : Nat → AV) : Option Operand → Nat → Nat → Prop
  | no (m : Nat) : Bd n T none m m
  | yes {y : Operand} {kd : IntKind} {I : Int} {m l : Nat} (h : evA n T y = .t (.v (.int kd I))) (h0 : 0 ≤ I) (hl : I.toNat = l) : Bd n T (some y) m l
theorem cut_run {e : Env} {a : Act} {w : World} {ρ : Rho} {Z Y : Nat → Prop} (hR : Rp e ⟨n, T, heap⟩ a w ρ Z Y) {t : TypeId} {x : Operand} {lo hi : Option Operand} {et : TypeId} (ht : P.underlying t = some (.slice et)) {z : Option Value} {size bytes : Nat} (hI : (P.info? et).map (fun i => (i.zero, i.size, i.bytes)) = some (z, size, bytes))
    {sa : Option Addr} {m c l h : Nat} (hx : a.eval x = .slice sa m c) (hc : m ≤ c) (hl : Bd n T lo 0 l) (hh : Bd n T hi m h) (h1 : l ≤ h) (h2 : h ≤ m) :
    (Instr.sliceAt t (a.eval x) (lo.map a.eval) (hi.map a.eval) none).run P w = .ok (.slice (if c = l then sa else sa.map (·.add (l * size))) (h - l) (c - l)) w := by
  have ht' : P.underlying t = some (.slice (P.elem t)) := by rw [elem_of ht]; exact ht
  have lv : ∀ {y : Operand} {kd : IntKind} {q : Int}, evA n T y = .t (.v (.int kd q)) → a.eval y = .int kd q := fun {y kd q} e1 => by
    have := hR.eval y
    rw [e1] at this
    generalize a.eval y = v at this
    cases this with
    | t h => cases h; rfl
  rw [hx]
  cases hl with
  | no => cases hh with
    | no =>
      simp only [Option.map_none]
      rw [run_sliceAt_slice w t _ _ _ _ ht']
      simp [Instr.slice, Instr.sliceBounds, run_underlying ht, run_size hI, Result.andThen]
    | @yes y kd I _ _ e1 e2 e3 =>
      simp only [Option.map_none, Option.map_some, lv e1]
      rw [run_sliceAt_slice w t _ _ _ _ ht', run_slice_h w t sa m c ht' kd I e2 (by omega), elem_of ht, run_size hI, e3]
      rfl
  | @yes y kd I _ _ e1 e2 e3 => cases hh with
    | no =>
      simp only [Option.map_none, Option.map_some, lv e1]
      rw [run_sliceAt_slice w t _ _ _ _ ht', run_slice_l w t sa m c ht' kd I e2 (by omega), elem_of ht, run_size hI, e3]
      rfl
    | @yes y' kd' I' _ _ e1' e2' e3' =>
      simp only [Option.map_some, lv e1, lv e1']
      rw [run_sliceAt_slice w t _ _ _ _ ht', run_slice_lh w t sa m c ht' kd kd' I I' e2 (by omega) (by omega), elem_of ht, run_size hI, e3, e3']
      rfl
theorem cut_rs {w : World} {Z : Nat → Prop} {size s : Nat} {sa : Option Addr} {c l h : Nat} {els : List (List Tr)} {xs : List Value} (hs : ∀ cs ∈ els, cs.length = size) (hr : Rs w s sa els.length c xs) (he : Elems (Frz w Z) s els xs) (h1 : l ≤ h) (h2 : h ≤ els.length) :
    ∃ xs', Rs w size (if c = l then sa else sa.map (·.add (l * size))) (h - l) (c - l) xs' ∧ Elems (Frz w Z) size ((els.drop l).take (h - l)) xs' ∧ (xs' ≠ [] → xs ≠ [] ∧ (adr (if c = l then sa else sa.map (·.add (l * size)))).block = (adr sa).block) := by
  obtain ⟨g1, g2⟩ := resize hs hr he
  refine ⟨_, rs_sliced g1 l h h1 h2, (g2.drop l).take (h - l), fun hne => ⟨fun hx => by subst hx; simp at hne, ?_⟩⟩
  split
  · rfl
  · cases sa with
    | none => rfl
    | some b => exact add_block b _
/-- A piece of what is only read. -/
theorem A_cut (hw : wantedA n T ops o = true) (hd : o.dst = some d) (t : TypeId) (x : Operand) (lo hi : Option Operand) (ho : o.op = .slice t x lo hi none) {e : TypeId} (ht : P.underlying t = some (.slice e)) {z : Option Value} {size bytes : Nat} (hI : (P.info? e).map (fun i => (i.zero, i.size, i.bytes)) = some (z, size, bytes))
    {els : List (List Tr)} (hx : evA n T x = .ln els) (hs : ∀ cs ∈ els, cs.length = size) {m l h : Nat} (hm : els.length = m) (hl : Bd n T lo 0 l) (hh : Bd n T hi m h) (h1 : l ≤ h) (h2 : h ≤ m) {els' : List (List Tr)} (he : (els.drop l).take (h - l) = els')
    (k : AL P ops Q rest n (pu T d (.ln els')) heap) : AL P ops Q (o :: rest) n T heap := by
  subst he hm
  refine AL.val hw hd (fun en a w ρ Z Y hR => ?_) k
  have hv := hR.eval x
  rw [hx] at hv
  obtain ⟨sa, c, s, xs, g1, g2, g3, g4⟩ := ro_open hR.ok.rep.zy (.inl rfl) hv
  obtain ⟨xs', q1, q2, q3⟩ := cut_rs hs g2 g4 h1 h2
  refine ⟨_, val_of (s := Instr.sliceAt t (a.eval x) (lo.map a.eval) (hi.map a.eval) none) (by unfold execOp; rw [ho]; rfl) (cut_run hR ht hI g1 g2.cap hl hh h1 h2), .ln q1 (fun hne => ?_) (by rw [List.length_take, List.length_drop]; omega) q2⟩
  rw [(q3 hne).2]; exact g3 (q3 hne).1
theorem A_cut_t (hw : wantedA n T ops o = true) (hd : o.dst = some d) (t : TypeId) (x : Operand) (lo hi : Option Operand) (ho : o.op = .slice t x lo hi none) {e : TypeId} (ht : P.underlying t = some (.slice e)) {z : Option Value} {size bytes : Nat} (hI : (P.info? e).map (fun i => (i.zero, i.size, i.bytes)) = some (z, size, bytes))
    {els : List (List Tr)} (hx : evA n T x = .t (.lst els)) (hs : ∀ cs ∈ els, cs.length = size) {m l h : Nat} (hm : els.length = m) (hl : Bd n T lo 0 l) (hh : Bd n T hi m h) (h1 : l ≤ h) (h2 : h ≤ m) {els' : List (List Tr)} (he : (els.drop l).take (h - l) = els')
    (k : AL P ops Q rest n (pu T d (.t (.lst els'))) heap) : AL P ops Q (o :: rest) n T heap := by
  subst he hm
  refine AL.val hw hd (fun en a w ρ Z Y hR => ?_) k
  have hv := hR.eval x
  rw [hx] at hv
  generalize hax : a.eval x = vx at hv
  cases hv with
  | t hv =>
  obtain ⟨sa, c, s, xs, g1, g2, g3, g4⟩ := hv.open
  obtain ⟨xs', q1, q2, q3⟩ := cut_rs hs g2 g4 h1 h2
  refine ⟨_, val_of (s := Instr.sliceAt t (a.eval x) (lo.map a.eval) (hi.map a.eval) none) (by unfold execOp; rw [ho]; rfl) (cut_run hR ht hI (by rw [hax]; exact g1) g2.cap hl hh h1 h2), .t (.shut (by rw [List.length_take, List.length_drop]; omega) q1 (fun hne => ?_) q2)⟩
  rw [(q3 hne).2]; exact g3 (q3 hne).1
/-- The front of an own row. -/
theorem A_cut_hi (hw : wantedA n T ops o = true) (hd : o.dst = some d) (t : TypeId) (x : Operand) (hi : Option Operand) (ho : o.op = .slice t x none hi none) {e : TypeId} (ht : P.underlying t = some (.slice e)) {z : Option Value} {size bytes : Nat} (hI : (P.info? e).map (fun i => (i.zero, i.size, i.bytes)) = some (z, size, bytes))
    {i k' m h : Nat} (hx : evA n T x = .sl i k' m) (hh : Bd n T hi m h) (h2 : h ≤ m) (k : AL P ops Q rest n (pu T d (.sl i k' h)) heap) : AL P ops Q (o :: rest) n T heap := by
  refine AL.val hw hd (fun en a w ρ Z Y hR => ?_) k
  have hv := hR.eval x
  rw [hx] at hv
  generalize hax : a.eval x = vx at hv
  cases hv with
  | sl hk hc h0 =>
  refine ⟨_, val_of (s := Instr.sliceAt t (a.eval x) none (hi.map a.eval) none) (by unfold execOp; rw [ho]; rfl) (cut_run (lo := none) hR ht hI hax hc (.no 0) hh (Nat.zero_le _) h2), ?_⟩
  have := Val.sl (ρ := ρ) (w := w) (Z := Z) (Y := Y) hk (n := h) (by omega) h0
  rw [Nat.sub_zero, Nat.sub_zero, Nat.zero_mul]
  have e0 : (if (ρ i k').c = 0 then (ρ i k').a else Option.map (fun x => x.add 0) (ρ i k').a) = (ρ i k').a := by
    split
    · rfl
    · cases (ρ i k').a with
      | none => rfl
      | some b => simp [Addr.add]
  rw [e0]
  exact this
/-- .. or any piece of it, that is only read, or stored into. -/
theorem A_cut_sub (hw : wantedA n T ops o = true) (hd : o.dst = some d) (t : TypeId) (x : Operand) (lo hi : Option Operand) (ho : o.op = .slice t x lo hi none) {e : TypeId} (ht : P.underlying t = some (.slice e)) {z : Option Value} {size bytes : Nat} (hI : (P.info? e).map (fun i => (i.zero, i.size, i.bytes)) = some (z, size, bytes))
    {i k' m l h : Nat} (hx : evA n T x = .sl i k' m) {E : TypeId} {els : List (List Tr)} (hi' : heap[i]? = some (.row k' E size els)) (hl : Bd n T lo 0 l) (hh : Bd n T hi m h) (h1 : l ≤ h) (h2 : h ≤ m) {q : Nat} (hq : h - l = q) (k : AL P ops Q rest n (pu T d (.sub i k' l q)) heap) : AL P ops Q (o :: rest) n T heap := by
  subst hq
  refine AL.val hw hd (fun en a w ρ Z Y hR => ?_) k
  have hv := hR.eval x
  rw [hx] at hv
  obtain ⟨e1, xs, e2, e3, e4⟩ := hR.ok.rep.row hi'
  generalize hax : a.eval x = vx at hv
  cases hv with
  | sl hk hc _ =>
  refine ⟨_, val_of (s := Instr.sliceAt t (a.eval x) (lo.map a.eval) (hi.map a.eval) none) (by unfold execOp; rw [ho]; rfl) (cut_run hR ht hI hax hc hl hh h1 h2), .sub hk (by omega) (by have := e4.most; omega) (fun hn => ?_) (fun hne => ?_)⟩
  · have hn' : (ρ i k').a = none := by
      split at hn
      · exact hn
      · simpa using hn
    have := e4.none hn'
    omega
  · rw [if_neg (by omega)]
    cases ha : (ρ i k').a with
    | none => have := e4.none ha; omega
    | some b => rw [e1]; rfl
end
end Go.Proofs.Ytkichjejadkdgaa
