/- Joined: XLB, XLC, XTypes, XTEq, XTIoR, XTArr. -/
import Derived.Test.YtmljglphegeilaaKBa
import Derived.WalkSpells
import Derived.IntWalk
import Derived.Laws.Bits
import Derived.Test.YtmljglphegeilaaRows
import Derived.KernelRfl
import Derived.Laws.StructEq
namespace Go.Proofs.Ytmljglphegeilaa
set_option linter.unusedVariables false
set_option linter.unusedSimpArgs false
set_option linter.unnecessarySimpa false
open Go.RowKit
inductive Parts (n : Fr) (T : Nat → AV) : List (Nat × Operand) → List (Nat × List AV) → Prop
  | nil : Parts n T [] []
  | cons {i : Nat} {x : Operand} {cs : List AV} {ps : List (Nat × Operand)} {qs : List (Nat × List AV)} (h : (evA n T x).flat = some cs) (k : Parts n T ps qs) : Parts n T ((i, x) :: ps) ((i, cs) :: qs)
def fillA (places : List (Nat × Nat)) : List AV → List (Nat × List AV) → Option (List AV)
  | cells, [] => some cells
  | cells, (i, cs) :: rest =>
    match places[i]? with
    | none => none
    | some (off, size) => bif Nat.beq cs.length size && Nat.ble (off + cs.length) cells.length then fillA places (cells.take off ++ cs ++ cells.drop (off + cs.length)) rest else none
section
variable {w : World} {ρ : Rho} {Z Y : Nat → Prop}
theorem avs_splice {R : AV → Value → Prop} {cs us : List AV} {vs ws : List Value} {off : Nat} (h : AVs R cs vs) (g : AVs R us ws) (hf : off + us.length ≤ cs.length) : AVs R (cs.take off ++ us ++ cs.drop (off + us.length)) (vs.take off ++ ws ++ vs.drop (off + ws.length)) := by
  have h1 := h.len
  have g1 := g.len
  refine ⟨by simp only [List.length_append, List.length_take, List.length_drop]; omega, fun j x u hj hu => ?_⟩
  have e1 : (cs.take off).length = off := by rw [List.length_take]; omega
  have e2 : (vs.take off).length = off := by rw [List.length_take]; omega
  by_cases c1 : j < off
  · rw [List.append_assoc, List.getElem?_append_left (by omega), List.getElem?_take, if_pos c1] at hj hu
    exact h.at_ j x u hj hu
  · by_cases c2 : j < off + us.length
    · rw [List.append_assoc, List.getElem?_append_right (by omega), List.getElem?_append_left (by omega)] at hj hu
      rw [e1] at hj
      rw [e2] at hu
      exact g.at_ _ x u hj hu
    · rw [List.getElem?_append_right (by simp only [List.length_append]; omega), List.length_append, List.getElem?_drop] at hj hu
      rw [e1] at hj
      rw [e2] at hu
      rw [← g1] at hu
      exact h.at_ _ x u hj hu
theorem splice_one {vs ws : List Value} {off m : Nat} (h : ∀ u ∈ vs, u.oneCell' = true) (g : ∀ u ∈ ws, u.oneCell' = true) : ∀ u ∈ vs.take off ++ ws ++ vs.drop m, u.oneCell' = true := by
  intro u hu
  rcases List.mem_append.1 hu with hu | hu
  · rcases List.mem_append.1 hu with hu | hu
    · exact h u (List.mem_of_mem_take hu)
    · exact g u hu
  · exact h u (List.mem_of_mem_drop hu)
theorem fillA_open {e : Env} {n : Fr} {T : Nat → AV} {heap : List Ob} {a : Act} (hR : Rp e ⟨n, T, heap⟩ a w ρ Z Y) {places : List (Nat × Nat)} {ps : List (Nat × Operand)} {qs : List (Nat × List AV)} (hp : Parts n T ps qs) :
    ∀ {zs cs : List AV} {us : List Value}, fillA places zs qs = some cs → AVs (Val (Kn heap) ρ w Z Y) zs us → (∀ u ∈ us, u.oneCell' = true) →
      ∃ vs, fillL places us (ps.map (fun x => (x.1, a.eval x.2))) = some vs ∧ AVs (Val (Kn heap) ρ w Z Y) cs vs ∧ ∀ u ∈ vs, u.oneCell' = true := by
  induction hp with
  | nil => intro zs cs us h hv h1; cases h; exact ⟨us, rfl, hv, h1⟩
  | @cons i x cs' ps qs h k ih =>
    intro zs cs us hf hv h1
    obtain ⟨ws, g1, g2, g3⟩ := (hR.eval x).flat h
    unfold fillA at hf
    cases hpl : places[i]? with
    | none => rw [hpl] at hf; cases hf
    | some q =>
      obtain ⟨off, size⟩ := q
      rw [hpl] at hf
      simp only at hf
      cases hb : (Nat.beq cs'.length size && Nat.ble (off + cs'.length) zs.length) with
      | false => rw [hb] at hf; cases hf
      | true =>
        rw [hb] at hf
        simp only [cond_true] at hf
        rw [Bool.and_eq_true] at hb
        have b1 := Nat.eq_of_beq_eq_true hb.1
        have b2 := Nat.le_of_ble_eq_true hb.2
        have l1 := g2.len
        have l2 := hv.len
        obtain ⟨vs, q1, q2, q3⟩ := ih hf (avs_splice hv g2 b2) (splice_one h1 g3)
        refine ⟨vs, ?_, q2, q3⟩
        rw [List.map_cons]
        unfold fillL
        simp only [hpl, g1, List.size_toArray]
        rw [if_pos ⟨by omega, by omega⟩]
        exact q1
end
section
variable {P : Program} {ops : Array Oper} {Q : QS} {rest : List Oper} {o : Oper} {n : Fr} {T : Nat → AV} {heap : List Ob} {d : Nat}
theorem A_build (hw : wantedA n T ops o = true) (hd : o.dst = some d) (t : TypeId) (parts : Array (Nat × Operand)) (ho : o.op = .build t parts) {fs : Array Field} (hu : P.underlying t = some (.struct fs)) {z : Value} {size bytes : Nat} (hI : (P.info? t).map (fun i => (i.zero, i.size, i.bytes)) = some (some z, size, bytes))
    (places : List (Nat × Nat)) (hp : fs.toList.map (fun f => (f.offset, (P.info? f.type).map (·.size))) = places.map (fun x => (x.1, some x.2))) {zs : List AV} (hz : (ofConst z).flat = some zs) {qs : List (Nat × List AV)} (hq : Parts n T parts.toList qs) {cs : List AV} (hf : fillA places zs qs = some cs)
    (k : AL P ops Q rest n (pu T d (.agg cs)) heap) : AL P ops Q (o :: rest) n T heap := by
  refine AL.val hw hd (fun en a w ρ Z Y hR => ?_) k
  obtain ⟨us, u1, u2, u3⟩ := (val_ofConst (Kn := Kn heap) (ρ := ρ) (w := w) (Z := Z) (Y := Y) z).flat hz
  obtain ⟨vs, q1, q2, q3⟩ := fillA_open hR hq hf u2 u3
  refine ⟨.agg vs.toArray, val_of (s := Instr.build t (parts.map (fun (i, x) => (i, a.eval x)))) (by unfold execOp; rw [ho]) ?_, .agg q2.len q3 q2.at_⟩
  obtain ⟨i, hi, hz', _, _⟩ := info_of hI
  have e2 : (zeroValue t).run P w = .ok z w := by simp [zeroValue, typeInfo, hi, hz']
  have e3 : (fs.mapM (fun f => (do pure (f.offset, ← sizeOf f.type) : Sem (Nat × Nat)))).run P w = .ok places.toArray w := by
    have := places_run (P := P) w fs.toList places hp
    rw [Array.mapM_eq_mapM_toList, map_eq_pure_bind]
    simp only [Sem.run_bind, this, Result.andThen_ok, Sem.run_pure]
  have e4 := fill_of _ _ _ q1
  have e5 : (parts.map (fun (i, x) => (i, a.eval x))).toList = parts.toList.map (fun x => (x.1, a.eval x.2)) := by simp
  simp only [Instr.build, Sem.run_bind, e2, Result.andThen_ok, run_underlying hu, e3, u1, e5, e4, Sem.run_pure]
theorem A_get (hw : wantedA n T ops o = true) (hd : o.dst = some d) (t : TypeId) (x : Operand) (f : Nat) (ho : o.op = .field t x f) {fs : Array Field} (hu : P.underlying t = some (.struct fs)) {fd : Field} (hf : fs[f]? = some fd) {ds : TypeDesc} (ha : (match ds with | .struct _ | .array _ _ => true | _ => false) = false) (hds : P.underlying fd.type = some ds)
    {m : Nat} (hm : fd.offset = m) {l : List AV} (hx : evA n T x = .agg l) {u : AV} (hc : l[m]? = some u) (k : AL P ops Q rest n (pu T d u) heap) : AL P ops Q (o :: rest) n T heap := by
  subst hm
  refine AL.val hw hd (fun en a w ρ Z Y hR => ?_) k
  have hv := hR.eval x
  rw [hx] at hv
  generalize hax : a.eval x = vx at hv
  cases hv with
  | @agg _ us h1 h2 h3 =>
  have hlt := get_lt hc
  rw [h1] at hlt
  refine ⟨us[fd.offset], val_of (s := Instr.field t (a.eval x) f) (by unfold execOp; rw [ho]) ?_, h3 _ _ _ hc (List.getElem?_eq_getElem hlt)⟩
  have hag : (isAgg fd.type).run P w = .ok false w := by
    unfold isAgg
    rw [Sem.run_bind, run_underlying hds]
    cases ds <;> simp_all [Result.andThen]
  rw [hax]
  simp only [Instr.field, Sem.run_bind, run_underlying hu, Result.andThen_ok, hf, asAgg, part, hag]
  simp [List.getElem?_eq_getElem hlt, Result.andThen, hag]
theorem A_get_agg (hw : wantedA n T ops o = true) (hd : o.dst = some d) (t : TypeId) (x : Operand) (f : Nat) (ho : o.op = .field t x f) {fs : Array Field} (hu : P.underlying t = some (.struct fs)) {fd : Field} (hf : fs[f]? = some fd) {ds : TypeDesc} (ha : (match ds with | .struct _ | .array _ _ => true | _ => false) = true) (hds : P.underlying fd.type = some ds)
    {z : Option Value} {size bytes : Nat} (hI : (P.info? fd.type).map (fun i => (i.zero, i.size, i.bytes)) = some (z, size, bytes)) {m : Nat} (hm : fd.offset = m) {l : List AV} (hx : evA n T x = .agg l) {us' : List AV} (hc : (l.drop m).take size = us') (k : AL P ops Q rest n (pu T d (.agg us')) heap) : AL P ops Q (o :: rest) n T heap := by
  subst hm hc
  refine AL.val hw hd (fun en a w ρ Z Y hR => ?_) k
  have hv := hR.eval x
  rw [hx] at hv
  generalize hax : a.eval x = vx at hv
  cases hv with
  | @agg _ us h1 h2 h3 =>
  refine ⟨.agg ((us.drop fd.offset).take size).toArray, val_of (s := Instr.field t (a.eval x) f) (by unfold execOp; rw [ho]) ?_, .agg (by simp [h1]) (fun u hu => h2 u (List.mem_of_mem_drop (List.mem_of_mem_take hu))) (fun j x u hj hu => ?_)⟩
  · have hag : (isAgg fd.type).run P w = .ok true w := by
      unfold isAgg
      rw [Sem.run_bind, run_underlying hds]
      cases ds <;> simp_all [Result.andThen]
    rw [hax]
    simp only [Instr.field, Sem.run_bind, run_underlying hu, Result.andThen_ok, hf, asAgg, part, hag]
    have e : (us.toArray.extract fd.offset (fd.offset + size)) = ((us.drop fd.offset).take size).toArray := by
      apply Array.toList_inj.1
      simp [List.extract_eq_take_drop]
    simp [run_size hI, Result.andThen, e, hag]
  · rw [List.getElem?_take] at hj hu
    split at hj
    · rename_i hlt
      rw [if_pos hlt] at hu
      rw [List.getElem?_drop] at hj hu
      exact h3 _ x u hj hu
    · cases hj
theorem A_extract (hw : wantedA n T ops o = true) (hd : o.dst = some d) (x : Operand) (f : Nat) (ho : o.op = .extract x f) {l : List AV} (hx : evA n T x = .tup l) {u : AV} (hc : l[f]? = some u) (k : AL P ops Q rest n (pu T d u) heap) : AL P ops Q (o :: rest) n T heap := by
  refine AL.val hw hd (fun en a w ρ Z Y hR => ?_) k
  have hv := hR.eval x
  rw [hx] at hv
  generalize hax : a.eval x = vx at hv
  cases hv with
  | @tup _ us h1 h3 =>
  have hlt := get_lt hc
  rw [h1] at hlt
  refine ⟨us[f], val_of (s := Instr.extract (a.eval x) f) (by unfold execOp; rw [ho]) ?_, h3 _ _ _ hc (List.getElem?_eq_getElem hlt)⟩
  rw [hax]
  simp [Instr.extract, List.getElem?_eq_getElem hlt]
inductive Bd (n : Fr) (T : Nat → AV) : Option Operand → Nat → Nat → Prop
  | no (m : Nat) : Bd n T none m m
  | yes {y : Operand} {kd : IntKind} {I : Int} {m l : Nat} (h : evA n T y = .t (.v (.int kd I))) (h0 : 0 ≤ I) (hl : I.toNat = l) : Bd n T (some y) m l
theorem cut_run {e : Env} {a : Act} {w : World} {ρ : Rho} {Z Y : Nat → Prop} (hR : Rp e ⟨n, T, heap⟩ a w ρ Z Y) {t : TypeId} {x : Operand} {lo hi : Option Operand} {et : TypeId} (ht : P.underlying t = some (.slice et)) {z : Option Value} {size bytes : Nat} (hI : (P.info? et).map (fun i => (i.zero, i.size, i.bytes)) = some (z, size, bytes))
    {sa : Option Addr} {m c l h : Nat} (hx : a.eval x = .slice sa m c) (hc : m ≤ c) (hl : Bd n T lo 0 l) (hh : Bd n T hi m h) (h1 : l ≤ h) (h2 : h ≤ m) :
    (Instr.sliceAt t (a.eval x) (lo.map a.eval) (hi.map a.eval) none).run P w = .ok (.slice (if c = l then sa else sa.map (·.add (l * size))) (h - l) (c - l)) w := by
  have ht' : P.underlying t = some (.slice (P.elem t)) := by rw [elem_of ht]; exact ht
  have lv : ∀ {y : Operand} {kd : IntKind} {q : Int}, evA n T y = .t (.v (.int kd q)) → a.eval y = .int kd q := fun {y kd q} e1 => by
    have := hR.eval y
    rw [e1] at this
    generalize a.eval y = v at this
    cases this with
    | t h => cases h; rfl
  rw [hx]
  cases hl with
  | no => cases hh with
    | no =>
      simp only [Option.map_none]
      rw [run_sliceAt_slice w t _ _ _ _ ht']
      simp [Instr.slice, Instr.sliceBounds, run_underlying ht, run_size hI, Result.andThen]
    | @yes y kd I _ _ e1 e2 e3 =>
      simp only [Option.map_none, Option.map_some, lv e1]
      rw [run_sliceAt_slice w t _ _ _ _ ht', run_slice_h w t sa m c ht' kd I e2 (by omega), elem_of ht, run_size hI, e3]
      rfl
  | @yes y kd I _ _ e1 e2 e3 => cases hh with
    | no =>
      simp only [Option.map_none, Option.map_some, lv e1]
      rw [run_sliceAt_slice w t _ _ _ _ ht', run_slice_l w t sa m c ht' kd I e2 (by omega), elem_of ht, run_size hI, e3]
      rfl
    | @yes y' kd' I' _ _ e1' e2' e3' =>
      simp only [Option.map_some, lv e1, lv e1']
      rw [run_sliceAt_slice w t _ _ _ _ ht', run_slice_lh w t sa m c ht' kd kd' I I' e2 (by omega) (by omega), elem_of ht, run_size hI, e3, e3']
      rfl
theorem cut_rs {w : World} {Z : Nat → Prop} {size s : Nat} {sa : Option Addr} {c l h : Nat} {els : List (List Tr)} {xs : List Value} (hs : ∀ cs ∈ els, cs.length = size) (hr : Rs w s sa els.length c xs) (he : Elems (Frz w Z) s els xs) (h1 : l ≤ h) (h2 : h ≤ els.length) :
    ∃ xs', Rs w size (if c = l then sa else sa.map (·.add (l * size))) (h - l) (c - l) xs' ∧ Elems (Frz w Z) size ((els.drop l).take (h - l)) xs' ∧ (xs' ≠ [] → xs ≠ [] ∧ (adr (if c = l then sa else sa.map (·.add (l * size)))).block = (adr sa).block) := by
  obtain ⟨g1, g2⟩ := resize hs hr he
  refine ⟨_, rs_sliced g1 l h h1 h2, (g2.drop l).take (h - l), fun hne => ⟨fun hx => by subst hx; simp at hne, ?_⟩⟩
  split
  · rfl
  · cases sa with
    | none => rfl
    | some b => exact add_block b _
theorem A_cut (hw : wantedA n T ops o = true) (hd : o.dst = some d) (t : TypeId) (x : Operand) (lo hi : Option Operand) (ho : o.op = .slice t x lo hi none) {e : TypeId} (ht : P.underlying t = some (.slice e)) {z : Option Value} {size bytes : Nat} (hI : (P.info? e).map (fun i => (i.zero, i.size, i.bytes)) = some (z, size, bytes))
    {els : List (List Tr)} (hx : evA n T x = .ln els) (hs : ∀ cs ∈ els, cs.length = size) {m l h : Nat} (hm : els.length = m) (hl : Bd n T lo 0 l) (hh : Bd n T hi m h) (h1 : l ≤ h) (h2 : h ≤ m) {els' : List (List Tr)} (he : (els.drop l).take (h - l) = els')
    (k : AL P ops Q rest n (pu T d (.ln els')) heap) : AL P ops Q (o :: rest) n T heap := by
  subst he hm
  refine AL.val hw hd (fun en a w ρ Z Y hR => ?_) k
  have hv := hR.eval x
  rw [hx] at hv
  obtain ⟨sa, c, s, xs, g1, g2, g3, g4⟩ := ro_open hR.ok.rep.zy (.inl rfl) hv
  obtain ⟨xs', q1, q2, q3⟩ := cut_rs hs g2 g4 h1 h2
  refine ⟨_, val_of (s := Instr.sliceAt t (a.eval x) (lo.map a.eval) (hi.map a.eval) none) (by unfold execOp; rw [ho]; rfl) (cut_run hR ht hI g1 g2.cap hl hh h1 h2), .ln q1 (fun hne => ?_) (by rw [List.length_take, List.length_drop]; omega) q2⟩
  rw [(q3 hne).2]; exact g3 (q3 hne).1
theorem A_cut_t (hw : wantedA n T ops o = true) (hd : o.dst = some d) (t : TypeId) (x : Operand) (lo hi : Option Operand) (ho : o.op = .slice t x lo hi none) {e : TypeId} (ht : P.underlying t = some (.slice e)) {z : Option Value} {size bytes : Nat} (hI : (P.info? e).map (fun i => (i.zero, i.size, i.bytes)) = some (z, size, bytes))
    {els : List (List Tr)} (hx : evA n T x = .t (.lst els)) (hs : ∀ cs ∈ els, cs.length = size) {m l h : Nat} (hm : els.length = m) (hl : Bd n T lo 0 l) (hh : Bd n T hi m h) (h1 : l ≤ h) (h2 : h ≤ m) {els' : List (List Tr)} (he : (els.drop l).take (h - l) = els')
    (k : AL P ops Q rest n (pu T d (.t (.lst els'))) heap) : AL P ops Q (o :: rest) n T heap := by
  subst he hm
  refine AL.val hw hd (fun en a w ρ Z Y hR => ?_) k
  have hv := hR.eval x
  rw [hx] at hv
  generalize hax : a.eval x = vx at hv
  cases hv with
  | t hv =>
  obtain ⟨sa, c, s, xs, g1, g2, g3, g4⟩ := hv.open
  obtain ⟨xs', q1, q2, q3⟩ := cut_rs hs g2 g4 h1 h2
  refine ⟨_, val_of (s := Instr.sliceAt t (a.eval x) (lo.map a.eval) (hi.map a.eval) none) (by unfold execOp; rw [ho]; rfl) (cut_run hR ht hI (by rw [hax]; exact g1) g2.cap hl hh h1 h2), .t (.shut (by rw [List.length_take, List.length_drop]; omega) q1 (fun hne => ?_) q2)⟩
  rw [(q3 hne).2]; exact g3 (q3 hne).1
theorem A_cut_hi (hw : wantedA n T ops o = true) (hd : o.dst = some d) (t : TypeId) (x : Operand) (hi : Option Operand) (ho : o.op = .slice t x none hi none) {e : TypeId} (ht : P.underlying t = some (.slice e)) {z : Option Value} {size bytes : Nat} (hI : (P.info? e).map (fun i => (i.zero, i.size, i.bytes)) = some (z, size, bytes))
    {i k' m h : Nat} (hx : evA n T x = .sl i k' m) (hh : Bd n T hi m h) (h2 : h ≤ m) (k : AL P ops Q rest n (pu T d (.sl i k' h)) heap) : AL P ops Q (o :: rest) n T heap := by
  refine AL.val hw hd (fun en a w ρ Z Y hR => ?_) k
  have hv := hR.eval x
  rw [hx] at hv
  generalize hax : a.eval x = vx at hv
  cases hv with
  | sl hk hc h0 =>
  refine ⟨_, val_of (s := Instr.sliceAt t (a.eval x) none (hi.map a.eval) none) (by unfold execOp; rw [ho]; rfl) (cut_run (lo := none) hR ht hI hax hc (.no 0) hh (Nat.zero_le _) h2), ?_⟩
  have := Val.sl (ρ := ρ) (w := w) (Z := Z) (Y := Y) hk (n := h) (by omega) h0
  rw [Nat.sub_zero, Nat.sub_zero, Nat.zero_mul]
  have e0 : (if (ρ i k').c = 0 then (ρ i k').a else Option.map (fun x => x.add 0) (ρ i k').a) = (ρ i k').a := by
    split
    · rfl
    · cases (ρ i k').a with
      | none => rfl
      | some b => simp [Addr.add]
  rw [e0]
  exact this
theorem A_cut_sub (hw : wantedA n T ops o = true) (hd : o.dst = some d) (t : TypeId) (x : Operand) (lo hi : Option Operand) (ho : o.op = .slice t x lo hi none) {e : TypeId} (ht : P.underlying t = some (.slice e)) {z : Option Value} {size bytes : Nat} (hI : (P.info? e).map (fun i => (i.zero, i.size, i.bytes)) = some (z, size, bytes))
    {i k' m l h : Nat} (hx : evA n T x = .sl i k' m) {E : TypeId} {els : List (List Tr)} (hi' : heap[i]? = some (.row k' E size els)) (hl : Bd n T lo 0 l) (hh : Bd n T hi m h) (h1 : l ≤ h) (h2 : h ≤ m) {q : Nat} (hq : h - l = q) (k : AL P ops Q rest n (pu T d (.sub i k' l q)) heap) : AL P ops Q (o :: rest) n T heap := by
  subst hq
  refine AL.val hw hd (fun en a w ρ Z Y hR => ?_) k
  have hv := hR.eval x
  rw [hx] at hv
  obtain ⟨e1, xs, e2, e3, e4⟩ := hR.ok.rep.row hi'
  generalize hax : a.eval x = vx at hv
  cases hv with
  | sl hk hc _ =>
  refine ⟨_, val_of (s := Instr.sliceAt t (a.eval x) (lo.map a.eval) (hi.map a.eval) none) (by unfold execOp; rw [ho]; rfl) (cut_run hR ht hI hax hc hl hh h1 h2), .sub hk (by omega) (by have := e4.most; omega) (fun hn => ?_) (fun hne => ?_)⟩
  · have hn' : (ρ i k').a = none := by
      split at hn
      · exact hn
      · simpa using hn
    have := e4.none hn'
    omega
  · rw [if_neg (by omega)]
    cases ha : (ρ i k').a with
    | none => have := e4.none ha; omega
    | some b => rw [e1]; rfl
end
end Go.Proofs.Ytmljglphegeilaa

namespace Go.Proofs.Ytmljglphegeilaa
set_option linter.unusedVariables false
set_option linter.unusedSimpArgs false
set_option linter.unnecessarySimpa false
open Go.RowKit
def upF (g : Nat → Option Nat) : Nat → AV → AV
  | 0, _ => .any
  | k + 1, x => match x with
    | .t x => .t x
    | .nl => .nl
    | .sl i k n => match g i with | some j => .sl j k n | none => .any
    | .sub i k off n => match g i with | some j => .sub j k off n | none => .any
    | .ptr i off => match g i with | some j => .ptr j off | none => .any
    | .mv i => match g i with | some j => .mv j | none => .any
    | .cl els => .cl els
    | .rp i k idx off => match g i with | some j => .rp j k idx off | none => .any
    | .fn f a b => .fn f (a.map (upF g k)) (b.map (upF g k))
    | .agg l => .agg (l.map (upF g k))
    | .tup l => .tup (l.map (upF g k))
    | .any => .any
    | .ln _ => .any
    | .lp _ => .any
def upA (g : Nat → Option Nat) (x : AV) : AV := upF g 5 x
def upO (g : Nat → Option Nat) : Ob → Ob
  | .box t cs => .box t (cs.map (upA g))
  | .row k E s els => .row k E s els
  | .gone k => .gone k
  | .hole => .hole
  | .mp es => .mp es
  | .ra k E cs => .ra k E (cs.map (upA g))
theorem val_upF {Kn Kn' : Nat → Nat → Prop} {ρ ρ' : Rho} {w : World} {Z Y Y' : Nat → Prop} {g : Nat → Option Nat} (hk : ∀ i k j, g i = some j → Kn i k → Kn' j k ∧ ρ' j k = ρ i k) : ∀ (q : Nat) {x : AV} {v : Value}, Val Kn ρ w Z Y x v → Val Kn' ρ' w Z Y' (upF g q x) v := by
  intro q
  induction q with
  | zero => intro x v _; exact .any v
  | succ q ih =>
    have pw : ∀ {l : List AV} {us : List Value}, l.length = us.length → (∀ (j : Nat) x u, l[j]? = some x → us[j]? = some u → Val Kn ρ w Z Y x u) → (l.map (upF g q)).length = us.length ∧ ∀ (j : Nat) x u, (l.map (upF g q))[j]? = some x → us[j]? = some u → Val Kn' ρ' w Z Y' x u := fun {l us} h1 h2 => by
      refine ⟨by simpa using h1, fun j x u hj hu => ?_⟩
      rw [List.getElem?_map] at hj
      cases hx : l[j]? with
      | none => rw [hx] at hj; cases hj
      | some y => rw [hx] at hj; cases hj; exact ih (h2 j y u hx hu)
    intro x v h
    cases h with
    | any v => exact .any v
    | t h => exact .t h
    | nl a => exact .nl a
    | ln => exact .any _
    | lp => exact .any _
    | @sl i k n hk' hc h0 =>
      simp only [upF]
      cases hg : g i with
      | none => exact .any _
      | some j =>
        obtain ⟨h1, h2⟩ := hk i k j hg hk'
        rw [← h2] at hc h0 ⊢
        exact .sl h1 hc h0
    | @sub i k off n a c hk' hn hm h0 ha =>
      simp only [upF]
      cases hg : g i with
      | none => exact .any _
      | some j =>
        obtain ⟨h1, h2⟩ := hk i k j hg hk'
        exact .sub h1 hn hm h0 (by rw [h2]; exact ha)
    | @ptr i off b hk' ha =>
      simp only [upF]
      cases hg : g i with
      | none => exact .any _
      | some j =>
        obtain ⟨h1, h2⟩ := hk i 0 j hg hk'
        exact .ptr h1 (by rw [h2]; exact ha)
    | @mv i b hk' ha =>
      simp only [upF]
      cases hg : g i with
      | none => exact .any _
      | some j =>
        obtain ⟨h1, h2⟩ := hk i 0 j hg hk'
        exact .mv h1 (by rw [h2]; exact ha)
    | cl hr hz hn he => exact .cl hr hz hn he
    | @rp i k idx off hk' =>
      simp only [upF]
      cases hg : g i with
      | none => exact .any _
      | some j =>
        obtain ⟨h1, h2⟩ := hk i k j hg hk'
        rw [← h2]
        exact .rp h1
    | fn h1 h2 hu hv =>
      obtain ⟨a1, a2⟩ := pw h1 hu
      obtain ⟨b1, b2⟩ := pw h2 hv
      exact .fn a1 b1 a2 b2
    | agg h1 ho hu => obtain ⟨a1, a2⟩ := pw h1 hu; exact .agg a1 ho a2
    | tup h1 hu => obtain ⟨a1, a2⟩ := pw h1 hu; exact .tup a1 a2
theorem val_up {Kn Kn' : Nat → Nat → Prop} {ρ ρ' : Rho} {w : World} {Z Y Y' : Nat → Prop} {g : Nat → Option Nat} (hk : ∀ i k j, g i = some j → Kn i k → Kn' j k ∧ ρ' j k = ρ i k) {x : AV} {v : Value} (h : Val Kn ρ w Z Y x v) : Val Kn' ρ' w Z Y' (upA g x) v := val_upF hk 5 h
theorem upO_holds {Kn Kn' : Nat → Nat → Prop} {ρ ρ' : Rho} {w : World} {Z Y Y' : Nat → Prop} {g : Nat → Option Nat} (hk : ∀ i k j, g i = some j → Kn i k → Kn' j k ∧ ρ' j k = ρ i k) {i j : Nat} {o : Ob} (hρ : ∀ k, k < o.lim → ρ' j k = ρ i k) (h : o.holds (Val Kn ρ w Z Y) ρ w Z i) :
    (upO g o).holds (Val Kn' ρ' w Z Y') ρ' w Z j := by
  cases o with
  | box t cs =>
    obtain ⟨b, us, h1, h2, h3, h4⟩ := h
    refine ⟨b, us, by rw [hρ 0 (Nat.le_refl _)]; exact h1, h2, ⟨by rw [List.length_map]; exact h3.len, fun q x u hj hu => ?_⟩, h4⟩
    rw [List.getElem?_map] at hj
    cases hx : cs[q]? with
    | none => rw [hx] at hj; cases hj
    | some y => rw [hx] at hj; cases hj; exact val_up hk (h3.at_ q y u hx hu)
  | row k E s els =>
    obtain ⟨h1, xs, h2, h3⟩ := h
    have e := hρ k (Nat.le_refl _)
    exact ⟨by rw [e]; exact h1, xs, h2, by rw [e]; exact h3⟩
  | gone => trivial
  | hole => trivial
  | mp es =>
    obtain ⟨b, arr, c, h1, h2, h3⟩ := h
    exact ⟨b, arr, c, by rw [hρ 0 (Nat.le_refl _)]; exact h1, h2, h3⟩
  | ra k E cs =>
    obtain ⟨h1, us, h2, h3, h4⟩ := h
    have e := hρ k (Nat.le_refl _)
    refine ⟨by rw [e]; exact h1, us, ⟨by rw [List.length_map]; exact h2.len, fun q x u hj hu => ?_⟩, h3, by rw [e, List.length_map]; exact h4⟩
    rw [List.getElem?_map] at hj
    cases hx : cs[q]? with
    | none => rw [hx] at hj; cases hj
    | some y => rw [hx] at hj; cases hj; exact val_up hk (h2.at_ q y u hx hu)
theorem upO_blk {ρ ρ' : Rho} {g : Nat → Option Nat} {i j : Nat} {o : Ob} (hρ : ∀ k, k < o.lim → ρ' j k = ρ i k) : (upO g o).blk ρ' j = o.blk ρ i := by
  cases o with
  | box t cs => simp only [upO, Ob.blk]; rw [hρ 0 (Nat.le_refl _)]
  | row k E s els => simp only [upO, Ob.blk]; rw [hρ k (Nat.le_refl _)]
  | gone => rfl
  | hole => rfl
  | mp es => simp only [upO, Ob.blk]; rw [hρ 0 (Nat.le_refl _)]
  | ra k E cs => simp only [upO, Ob.blk]; rw [hρ k (Nat.le_refl _)]
theorem upO_lim {g : Nat → Option Nat} (o : Ob) : (upO g o).lim = o.lim := by cases o <;> rfl

inductive Pass (heap : List Ob) (sel : List Nat) : AV → AV → Prop
  | any (x : AV) : Pass heap sel x .any
  | t (x : Tr) : Pass heap sel (.t x) (.t x)
  | lst (els : List (List Tr)) : Pass heap sel (.t (.lst els)) (.ln els)
  | nl : Pass heap sel .nl .nl
  | nln : Pass heap sel .nl (.ln [])
  | nlt : Pass heap sel .nl (.t (.lst []))
  | ln (els : List (List Tr)) : Pass heap sel (.ln els) (.ln els)
  | lp {cs cs' : List AV} (hl : cs.length = cs'.length) (h : ∀ (j : Nat) x y, cs[j]? = some x → cs'[j]? = some y → Pass heap sel x y) : Pass heap sel (.lp cs) (.lp cs')
  | sel {p i k m : Nat} (hs : sel[p]? = some i) : Pass heap sel (.sl i k m) (.sl p k m)
  | own {i k m : Nat} {E : TypeId} {s : Nat} {els : List (List Tr)} (hi : heap[i]? = some (.row k E s els)) (hn : sel.contains i = false) (hm : m ≤ els.length) : Pass heap sel (.sl i k m) (.ln (els.take m))
  | all {i k m : Nat} {E : TypeId} {s : Nat} {els : List (List Tr)} (hi : heap[i]? = some (.row k E s els)) (hn : sel.contains i = false) (hm : els.length = m) : Pass heap sel (.sl i k m) (.ln els)
  | sub {i k off m : Nat} {E : TypeId} {s : Nat} {els : List (List Tr)} (hi : heap[i]? = some (.row k E s els)) (hn : sel.contains i = false) (hm : off + m ≤ els.length) : Pass heap sel (.sub i k off m) (.ln ((els.drop off).take m))
  | ptr {p i off : Nat} (hs : sel[p]? = some i) : Pass heap sel (.ptr i off) (.ptr p off)
  | box {i off : Nat} {t : TypeId} {cs cs' : List AV} (hi : heap[i]? = some (.box t cs)) (hn : sel.contains i = false) (hl : (cs.drop off).length = cs'.length) (h : ∀ (j : Nat) x y, (cs.drop off)[j]? = some x → cs'[j]? = some y → Pass heap sel x y) : Pass heap sel (.ptr i off) (.lp cs')
  | fn {f : Fn} {a b a' b' : List AV} (h1 : a.length = a'.length) (h2 : b.length = b'.length) (ha : ∀ (j : Nat) x y, a[j]? = some x → a'[j]? = some y → Pass heap sel x y) (hb : ∀ (j : Nat) x y, b[j]? = some x → b'[j]? = some y → Pass heap sel x y) : Pass heap sel (.fn f a b) (.fn f a' b')
  | agg {l l' : List AV} (h1 : l.length = l'.length) (h : ∀ (j : Nat) x y, l[j]? = some x → l'[j]? = some y → Pass heap sel x y) : Pass heap sel (.agg l) (.agg l')
  | tup {l l' : List AV} (h1 : l.length = l'.length) (h : ∀ (j : Nat) x y, l[j]? = some x → l'[j]? = some y → Pass heap sel x y) : Pass heap sel (.tup l) (.tup l')
inductive PassL (heap : List Ob) (sel : List Nat) : List AV → List AV → Prop
  | nil : PassL heap sel [] []
  | cons {x y : AV} {l l' : List AV} (h : Pass heap sel x y) (k : PassL heap sel l l') : PassL heap sel (x :: l) (y :: l')
theorem PassL.get {heap : List Ob} {sel : List Nat} {l l' : List AV} (h : PassL heap sel l l') : l.length = l'.length ∧ ∀ (j : Nat) x y, l[j]? = some x → l'[j]? = some y → Pass heap sel x y := by
  induction h with
  | nil => exact ⟨rfl, fun j x y h => by simp at h⟩
  | cons h k ih =>
    refine ⟨by simp [ih.1], fun j x y hj hy => ?_⟩
    cases j with
    | zero => simp at hj hy; subst hj hy; exact h
    | succ j => exact ih.2 j x y (by simpa using hj) (by simpa using hy)
theorem Pass.lpL {heap : List Ob} {sel : List Nat} {l l' : List AV} (h : PassL heap sel l l') : Pass heap sel (.lp l) (.lp l') := .lp h.get.1 h.get.2
theorem Pass.aggL {heap : List Ob} {sel : List Nat} {l l' : List AV} (h : PassL heap sel l l') : Pass heap sel (.agg l) (.agg l') := .agg h.get.1 h.get.2
theorem Pass.fnL {heap : List Ob} {sel : List Nat} {f : Fn} {a b a' b' : List AV} (h : PassL heap sel a a') (k : PassL heap sel b b') : Pass heap sel (.fn f a b) (.fn f a' b') := .fn h.get.1 k.get.1 h.get.2 k.get.2
theorem Pass.boxL {heap : List Ob} {sel : List Nat} {i off : Nat} {t : TypeId} {cs cs' : List AV} (hi : heap[i]? = some (.box t cs)) (hn : sel.contains i = false) {ds : List AV} (hd : cs.drop off = ds) (h : PassL heap sel ds cs') : Pass heap sel (.ptr i off) (.lp cs') := by
  subst hd
  exact .box hi hn h.get.1 h.get.2
theorem val_pass {heap H : List Ob} {sel : List Nat} {w : World} {ρ ρ0 : Rho} {Z Y Y0 : Nat → Prop} (hr : HRep heap w ρ Z Y) (hy : ∀ b, Y b → Y0 b) (hs : ∀ (p i k : Nat), sel[p]? = some i → Kn heap i k → Kn H p k ∧ ρ0 p k = ρ i k)
    (hb : ∀ (i : Nat) (o : Ob) (b : Nat), heap[i]? = some o → sel.contains i = false → o.blk ρ i = some b → Y0 b) {x y : AV} (h : Pass heap sel x y) : ∀ {v : Value}, Val (Kn heap) ρ w Z Y x v → Val (Kn H) ρ0 w Z Y0 y v := by
  have rowY : ∀ {i k : Nat} {E : TypeId} {s : Nat} {els : List (List Tr)}, heap[i]? = some (.row k E s els) → sel.contains i = false → ∀ {xs : List Value}, (Res.row (ρ i k).a els.length (ρ i k).c E s xs).holds 0 w → xs ≠ [] → Y0 (adr (ρ i k).a).block := by
    intro i k E s els hi hn xs hh hne
    refine hb i _ _ hi hn ?_
    rcases hh with ⟨_, _, e⟩ | ⟨hc, hh⟩
    · exact absurd e hne
    · simp only [Ob.blk]
      rw [if_neg (by omega)]
      cases ha : (ρ i k).a with
      | some b => rfl
      | none =>
        rw [ha] at hh
        rcases hh.2 with ⟨e, _⟩ | ⟨g, cap, cur, e, _⟩
        · simp only [Value.slice.injEq] at e; omega
        · simp at e
  have pw : ∀ {l l' : List AV} {us : List Value}, l.length = l'.length → l.length = us.length → (∀ (j : Nat) x y, l[j]? = some x → l'[j]? = some y → ∀ {v : Value}, Val (Kn heap) ρ w Z Y x v → Val (Kn H) ρ0 w Z Y0 y v) → (∀ (j : Nat) x u, l[j]? = some x → us[j]? = some u → Val (Kn heap) ρ w Z Y x u) →
      ∀ (j : Nat) y u, l'[j]? = some y → us[j]? = some u → Val (Kn H) ρ0 w Z Y0 y u := by
    intro l l' us e1 e2 ih hv j y u hj hu
    have hlt := get_lt hj
    rw [← e1] at hlt
    exact ih j _ y (List.getElem?_eq_getElem hlt) hj (hv j _ u (List.getElem?_eq_getElem hlt) hu)
  induction h with
  | any x => intro v _; exact .any v
  | t x => intro v hv; cases hv with | t h => exact .t h
  | lst els => intro v hv; cases hv with
    | t h => obtain ⟨a, c, s, xs, rfl, h2, h3, h4⟩ := h.open; exact .ln h2 (fun hne => hy _ (hr.zy _ (h3 hne))) rfl h4
  | nl => intro v hv; cases hv with | nl a => exact .nl a
  | nln => intro v hv; cases hv with
    | nl a => exact .ln (size := 0) (xs := []) ⟨Nat.le_refl _, Nat.zero_le _, fun _ => ⟨rfl, rfl⟩, rfl, fun j u h => by simp at h⟩ (fun h => absurd rfl h) rfl .nil
  | nlt => intro v hv; cases hv with
    | nl a => exact .t (.shut (size := 0) (xs := []) rfl ⟨Nat.le_refl _, Nat.zero_le _, fun _ => ⟨rfl, rfl⟩, rfl, fun j u h => by simp at h⟩ (fun h => absurd rfl h) .nil)
  | ln els => intro v hv; cases hv with
    | ln h1 h2 h3 h4 => exact .ln h1 (fun hne => hy _ (h2 hne)) h3 h4
  | lp hl h ih => intro v hv; cases hv with
    | @lp _ p us h1 h2 h3 h4 => exact .lp (by rw [← hl]; exact h1) h2 (fun j u hu => ⟨hy _ (h3 j u hu).1, (h3 j u hu).2⟩) (fun j y u hj hu => pw hl h1 ih h4 j y u hj hu)
  | sel h => intro v hv; cases hv with
    | sl hk hc h0 => obtain ⟨h1, h2⟩ := hs _ _ _ h hk; rw [← h2] at hc h0 ⊢; exact .sl h1 hc h0
  | own hi hn hm => intro v hv; cases hv with
    | sl hk hc _ =>
      obtain ⟨h1, xs, h2, h3, h4⟩ := hr.row hi
      exact .ln (rs_take h4 hm) (fun hne => rowY hi hn h3 (fun e => by rw [e] at hne; simp at hne)) (by rw [List.length_take]; omega) (h2.take _)
  | all hi hn hm => intro v hv; cases hv with
    | sl hk hc _ =>
      obtain ⟨h1, xs, h2, h3, h4⟩ := hr.row hi
      subst hm
      exact .ln h4 (fun hne => rowY hi hn h3 hne) rfl h2
  | @sub i k off m E s els hi hn hm => intro v hv; cases hv with
    | @sub _ _ _ _ a c hk hn' hmx h0 ha =>
      obtain ⟨h1, xs, h2, h3, h4⟩ := hr.row hi
      have e : ((els.drop off).take m).length = m := by rw [List.length_take, List.length_drop]; omega
      have hm0 : ∀ {q : List Value}, q = (xs.drop (off * s)).take (m * s) → q ≠ [] → m ≠ 0 := fun e1 hne e2 => hne (by rw [e1, e2]; simp)
      refine .ln (size := s) (xs := (xs.drop (off * s)).take (m * s)) ⟨hn', hmx, h0, ?_, fun j u hj => ?_⟩ (fun hne => ?_) e ((h2.drop off).take m)
      · have := ((h2.drop off).take m).len
        rw [e] at this; exact this
      · have hne := hm0 rfl (fun e => by rw [e] at hj; simp at hj)
        rw [List.getElem?_take] at hj
        split at hj
        · rw [ha hne, List.getElem?_drop] at *
          show w.cell? (Addr.add ((adr (ρ i k).a).add _) j) = _
          rw [add_add, h1]
          exact h4.cells _ u hj
        · cases hj
      · have hne' := hm0 rfl hne
        rw [ha hne']
        show Y0 (Addr.add _ _).block
        rw [add_block]
        exact rowY hi hn h3 (fun e => by rw [e] at hne; simp at hne)
  | ptr h => intro v hv; cases hv with
    | ptr hk ha => obtain ⟨h1, h2⟩ := hs _ _ _ h hk; exact .ptr h1 (by rw [h2]; exact ha)
  | @box i off t cs cs' hi hn hl h ih =>
    intro v hv
    obtain ⟨b, us, rfl, h1, h2, h3, h4⟩ := hr.box hi hv
    have hY : Y0 b := hb i _ b hi hn (by simp [Ob.blk, h1])
    have e2 := h3.len
    refine .lp (us := us.drop off) (by rw [← hl]; simp [e2]) (fun u hu => h4 u (List.mem_of_mem_drop hu)) (fun j u hj => ?_) (fun j y u hj hu => ?_)
    · rw [List.getElem?_drop] at hj
      refine ⟨hY, ?_⟩
      rw [add_at, cell_of_row w b _ _ _ _ h2]
      simpa using hj
    · refine pw (l := cs.drop off) (us := us.drop off) hl (by simp [e2]) ih (fun j x u hj hu => ?_) j y u hj hu
      rw [List.getElem?_drop] at hj hu
      exact h3.at_ _ x u hj hu
  | fn h1 h2 ha hb ih1 ih2 => intro v hv; cases hv with
    | fn e1 e2 hu hv => exact .fn (by rw [← h1]; exact e1) (by rw [← h2]; exact e2) (pw h1 e1 ih1 hu) (pw h2 e2 ih2 hv)
  | agg h1 h ih => intro v hv; cases hv with
    | agg e1 ho hu => exact .agg (by rw [← h1]; exact e1) ho (pw h1 e1 ih hu)
  | tup h1 h ih => intro v hv; cases hv with
    | tup e1 hu => exact .tup (by rw [← h1]; exact e1) (pw h1 e1 ih hu)
def C (P : Program) (f : FuncId) (args : List AV) (H : List Ob) (R : AV → List Ob → Prop) : Prop :=
  ∀ (e : Env) (vs : List Value), e.H = H → HRep H e.W e.ρ e.Z e.Y → (∀ (i : Nat) (o : Ob) (b : Nat), H[i]? = some o → o.blk e.ρ i = some b → e.D b) → AVs (Val (Kn H) e.ρ e.W e.Z e.Y) args vs →
    Calls P f vs.toArray e.W fun en w' => ∃ v r heap ρ Z Y, en = .returned v ∧ R r heap ∧ Ok e heap w' ρ Z Y ∧ Val (Kn heap) ρ w' Z Y r v
def shiftG (N : Nat) : Nat → Option Nat := fun i => some (N + i)
section
variable {P : Program} {ops : Array Oper} {Q : QS} {rest : List Oper} {o : Oper} {n : Fr} {T : Nat → AV} {heap : List Ob} {d : Nat}
theorem Ok.back {e : Env} {w w' : World} {ρ ρ1 : Rho} {Z Y Z1 Y1 : Nat → Prop} (h : Ok e heap w ρ Z Y) {e1 : Env} (hW : e1.W = w) (hD : ∀ b, e1.D b ↔ w.heap.size ≤ b) (hZ : e1.Z = Z) {L : List Ob} (k : Ok e1 L w' ρ1 Z1 Y1) {N : Nat} {heap' : List Ob} (hat : AtL heap N (L.map (upO (shiftG N))) heap') :
    ∃ ρ', Ok e heap' w' ρ' Z1 (fun b => Y b ∨ Z1 b) ∧ (∀ x v, Val (Kn heap) ρ w Z Y x v → Val (Kn heap') ρ' w' Z1 (fun b => Y b ∨ Z1 b) x v) ∧
      ∀ x v, Val (Kn L) ρ1 w' Z1 Y1 x v → Val (Kn heap') ρ' w' Z1 (fun b => Y b ∨ Z1 b) (upA (shiftG N) x) v := by
  let ρ' : Rho := fun j q => if N ≤ j ∧ j < N + L.length then ρ1 (j - N) q else ρ j q
  have hρ : ∀ j q, Kn heap j q → ρ' j q = ρ j q := fun j q hj => if_neg fun hc => (hat.kn hj).2 (j - N) (by simp; omega) (by omega)
  have hρ1 : ∀ i q, i < L.length → ρ' (N + i) q = ρ1 i q := fun i q hi => by
    show (if N ≤ N + i ∧ N + i < N + L.length then _ else _) = _
    rw [if_pos ⟨by omega, by omega⟩, Nat.add_sub_cancel_left]
  have hsz : w.heap.size ≤ w'.heap.size := by have := k.size; rw [hW] at this; exact this
  have hsame : ∀ b, b < w.heap.size → w'.heap[b]? = w.heap[b]? := fun b hb => by
    have := k.keep b (fun h => by have := (hD b).1 h; omega)
    rw [hW] at this; exact this
  have hz : ∀ b, Z b → Z1 b := fun b hb => k.z0 b (by rw [hZ]; exact hb)
  have hz1 : ∀ b, Z1 b → Z b ∨ (w.heap.size ≤ b ∧ b < w'.heap.size) := fun b hb => by
    rcases k.zone b hb with h1 | h1
    · rw [hZ] at h1; exact .inl h1
    · exact .inr ⟨(hD b).1 h1, k.rep.ylt b (k.rep.zy b hb)⟩
  have up : ∀ i q j, shiftG N i = some j → Kn L i q → Kn heap' j q ∧ ρ' j q = ρ1 i q := by
    rintro i q j hj ⟨p, hp, hq⟩
    cases hj
    exact ⟨⟨upO (shiftG N) p, hat.new (by rw [List.getElem?_map, hp]; rfl), by rw [upO_lim]; exact hq⟩, hρ1 i q (get_lt hp)⟩
  have getL : ∀ (q : Nat) (p : Ob), (L.map (upO (shiftG N)))[q]? = some p → ∃ p', L[q]? = some p' ∧ p = upO (shiftG N) p' := fun q p hq => by
    rw [List.getElem?_map] at hq
    cases hl : L[q]? with
    | none => rw [hl] at hq; cases hq
    | some p' => rw [hl] at hq; cases hq; exact ⟨p', rfl, rfl⟩
  have blk : ∀ (q : Nat) (p : Ob), L[q]? = some p → (upO (shiftG N) p).blk ρ' (N + q) = p.blk ρ1 q := fun q p hq => upO_blk fun m _ => hρ1 q m (get_lt hq)
  have hok : Ok e heap' w' ρ' Z1 (fun b => Y b ∨ Z1 b) := by
    refine h.push hat hρ ⟨by rw [k.os, hW], by rw [k.tape, hW], by rw [k.output, hW]⟩ hsz hsame hz (fun b hb => .inl hb) (fun b hb => .inr hb) (fun b hb => ?_) hz1 (fun q p hq => ?_) (fun q r p p' b hq hr hp hp' => ?_) (fun q p b hq hp => ?_)
    · rcases hb with hb | hb
      · exact .inl hb
      · rcases hz1 b hb with h1 | h1
        · exact .inl (h.rep.zy b h1)
        · exact .inr h1
    · obtain ⟨p', e1, rfl⟩ := getL q p hq
      exact upO_holds up (fun m _ => hρ1 q m (get_lt e1)) (k.rep.obs q p' e1)
    · obtain ⟨p1, e1, rfl⟩ := getL q p hq
      obtain ⟨p2, e2, rfl⟩ := getL r p' hr
      rw [blk q p1 e1] at hp
      rw [blk r p2 e2] at hp'
      exact k.rep.apart q r p1 p2 b e1 e2 hp hp'
    · obtain ⟨p1, e1, rfl⟩ := getL q p hq
      rw [blk q p1 e1] at hp
      have h1 := k.dom q p1 b e1 hp
      have h2 := k.rep.own q p1 b e1 hp
      refine ⟨(hD b).1 h1, h2.1, fun hb => ?_⟩
      rcases hb with hb | hb
      · have := h.rep.ylt b hb; have := (hD b).1 h1; omega
      · exact h2.2 (k.rep.zy b hb)
  refine ⟨ρ', hok, fun x v hv => ?_, fun x v hv => val_up up hv⟩
  exact h.rep.val (fun j q hj => ⟨(hat.kn hj).1, hρ j q hj⟩) hz (fun b hb => ⟨.inl hb, hsame b (h.rep.ylt b hb)⟩) hv
def callEnv (w : World) (ρ : Rho) (Z : Nat → Prop) : Env := { W := w, D := fun b => w.heap.size ≤ b, H := [], ρ := ρ, Z := Z, Y := fun b => b < w.heap.size, big := fun _ h => h, yd := fun b h1 h2 => by omega }
theorem callEnv_rep {w : World} {ρ : Rho} {Z Y : Nat → Prop} (h : HRep heap w ρ Z Y) : HRep [] w ρ Z (fun b => b < w.heap.size) :=
  ⟨fun i o h => by simp at h, fun i j o o' b h => by simp at h, fun i o b h => by simp at h, fun b hb => h.ylt b (h.zy b hb), fun b hb => hb⟩
theorem callEnv_val {w : World} {ρ : Rho} {Z Y : Nat → Prop} (h : HRep heap w ρ Z Y) {x y : AV} (hp : Pass heap [] x y) {v : Value} (hv : Val (Kn heap) ρ w Z Y x v) : Val (Kn []) ρ w Z (fun b => b < w.heap.size) y v :=
  val_pass h (fun b hb => h.ylt b hb) (fun p i k hp => by simp at hp) (fun i o b hi _ hb => (h.own i o b hi hb).1) hp hv
theorem A_call (hw : wantedA n T ops o = true) (hd : o.dst = some d) {f : FuncId} {fn : Func} (hf : P.funcs[f]? = some fn) (hn : (fn.name == "runtime.NumGoroutine") = false) (hb : fn.body.isNone = false) {args : Array Operand} {tys : Array TypeId}
    (ho : o.op = .call { callee := .value (.func f), args := args, argTypes := tys }) {xs : List AV} {R : AV → List Ob → Prop} (hp : PassL heap [] (args.toList.map (evA n T)) xs) (hc : C P f xs [] R) (N : Nat)
    (k : ∀ r L, R r L → ∃ heap', AtL heap N (L.map (upO (shiftG N))) heap' ∧ AL P ops Q rest n (pu T d (upA (shiftG N) r)) heap') : AL P ops Q (o :: rest) n T heap := by
  rintro e a w ⟨ρ, Z, Y, hR⟩
  have hrep := hR.ok.rep
  obtain ⟨hl, hg⟩ := hp.get
  refine wpList_do (hR.wanted hw) fun K hK => ?_
  unfold Oper.wp
  rw [run_fun hf hn hb ho (args.toList.map a.eval) rfl w]
  refine Calls.mono (hc (callEnv w ρ Z) (args.toList.map a.eval) rfl (callEnv_rep hrep) (fun i o b h => by simp at h) ⟨by simp at hl ⊢; omega, fun j x u hj hu => ?_⟩) ?_
  · rw [List.getElem?_map] at hu
    cases hx : args.toList[j]? with
    | none => rw [hx] at hu; cases hu
    | some y =>
      rw [hx] at hu; cases hu
      exact callEnv_val hrep (hg j (evA n T y) x (by rw [List.getElem?_map, hx]; rfl) hj) (hR.eval y)
  · rintro en w' ⟨v, r, L, ρ1, Z1, Y1, rfl, hRr, hok, hv⟩
    obtain ⟨heap', hat, kk⟩ := k r L hRr
    obtain ⟨ρ', k1, k2, k3⟩ := Ok.back (heap := heap) hR.ok (e1 := callEnv w ρ Z) rfl (fun b => Iff.rfl) rfl hok hat
    refine hK _ _ (kk e _ _ ⟨ρ', Z1, fun b => Y b ∨ Z1 b, ?_⟩)
    rw [hd]
    exact (hR.move k1 k2).put d (k3 r v hv)
end
end Go.Proofs.Ytmljglphegeilaa

namespace Go.Proofs.Ytmljglphegeilaa
set_option linter.unusedVariables false
set_option linter.unusedSimpArgs false
set_option linter.unnecessarySimpa false
open Go.RowKit
def AW (P : Program) (c : Code) (Q : QS) (n : Fr) (T : Nat → AV) (heap : List Ob) : Prop := ∀ e a w, Rep e ⟨n, T, heap⟩ a w → c.wp P (lift e n Q) a w
def thenQ (K : (Nat → AV) → List Ob → Prop) (Q : QS) : QS := fun e T h => match e with
  | .normal => K T h
  | e => Q e T h
def blockQ (id : Nat) (Q : QS) : QS := fun e T h => match e with
  | .exit i => bif Nat.beq i id then Q .normal T h else Q (.exit i) T h
  | e => Q e T h
section
variable {P : Program} {Q : QS} {n : Fr} {T : Nat → AV} {heap : List Ob}
theorem AW.mono {c : Code} {Q' : QS} (h : AW P c Q n T heap) (hq : ∀ e T h, Q e T h → Q' e T h) : AW P c Q' n T heap := fun e a w hR => wp_mono (h e a w hR) fun ex a w ⟨T', h', q, r⟩ => ⟨T', h', hq _ _ _ q, r⟩
theorem AW.region {id : Nat} {l : List Oper} (h : AL P l.toArray Q l n T heap) : AW P (.region id l.toArray false) Q n T heap := fun e a w hR => wp_region_lit (h e a w hR)
theorem AW.seq {x y : Code} (h : AW P x (thenQ (fun T h => AW P y Q n T h) Q) n T heap) : AW P (.seq x y) Q n T heap := fun e a w hR =>
  wp_seq (wp_mono (h e a w hR) fun ex a w ⟨T', h', q, r⟩ => by
    cases ex with
    | normal => exact q e a w r
    | _ => exact ⟨T', h', q, r⟩)
theorem AW.cond {c : Operand} {x y : Code} {b : Bool} (hc : evA n T c = .t (.v (.bool b))) (ht : b = true → AW P x Q n T heap) (hf : b = false → AW P y Q n T heap) : AW P (.cond c x y) Q n T heap := by
  rintro e a w ⟨ρ, Z, Y, hR⟩
  have hv := hR.eval c
  rw [hc] at hv
  generalize hav : a.eval c = v at hv
  cases hv with
  | t h => cases h with
    | v _ =>
    cases b with
    | true => exact wp_cond_true hav (ht rfl e a w ⟨ρ, Z, Y, hR⟩)
    | false => exact wp_cond_false hav (hf rfl e a w ⟨ρ, Z, Y, hR⟩)
theorem AW.block {id : Nat} {c : Code} (h : AW P c (blockQ id Q) n T heap) : AW P (.block id c) Q n T heap := fun e a w hR =>
  wp_block (wp_mono (h e a w hR) fun ex a w ⟨T', h', q, r⟩ => by
    cases ex with
    | exit i =>
      simp only [Exit.inBlock]
      simp only [blockQ] at q
      by_cases hi : i = id
      · subst hi
        rw [Nat.beq_refl] at q
        rw [if_pos rfl]
        exact ⟨T', h', q, r⟩
      · have hb : Nat.beq i id = false := by
          cases hb : Nat.beq i id
          · rfl
          · exact absurd (Nat.eq_of_beq_eq_true hb) hi
        rw [hb] at q
        rw [if_neg hi]
        exact ⟨T', h', q, r⟩
    | _ => exact ⟨T', h', q, r⟩)
theorem AW.skip (h : Q .normal T heap) : AW P .skip Q n T heap := fun _ _ _ hR => wp_skip ⟨T, heap, h, hR⟩
theorem AW.ret (h : Q .ret T heap) : AW P .ret Q n T heap := fun _ _ _ hR => wp_ret ⟨T, heap, h, hR⟩
theorem AW.exit {id : Nat} (h : Q (.exit id) T heap) : AW P (.exit id) Q n T heap := fun _ _ _ hR => wp_exit ⟨T, heap, h, hR⟩

def Wk (n : Fr) (T : Nat → AV) (heap : List Ob) (T' : Nat → AV) (heap' : List Ob) : Prop := ∀ e a w, Rep e ⟨n, T, heap⟩ a w → Rep e ⟨n, T', heap'⟩ a w
theorem Wk.refl : Wk n T heap T heap := fun _ _ _ h => h
theorem Wk.trans {T' T'' : Nat → AV} {heap' heap'' : List Ob} (h : Wk n T heap T' heap') (k : Wk n T' heap' T'' heap'') : Wk n T heap T'' heap'' := fun e a w hR => k e a w (h e a w hR)
theorem AW.wk {c : Code} {T' : Nat → AV} {heap' : List Ob} (h : Wk n T heap T' heap') (k : AW P c Q n T' heap') : AW P c Q n T heap := fun e a w hR => k e a w (h e a w hR)
theorem AL.wk {ops : Array Oper} {rest : List Oper} {T' : Nat → AV} {heap' : List Ob} (h : Wk n T heap T' heap') (k : AL P ops Q rest n T' heap') : AL P ops Q rest n T heap := fun e a w hR => k e a w (h e a w hR)
theorem Ok.sel {e : Env} {w : World} {ρ : Rho} {Z Y : Nat → Prop} (h : Ok e heap w ρ Z Y) {heap' : List Ob} (f : Nat → Nat) (g : Nat → Option Nat) (hinj : ∀ i j, i < heap'.length → j < heap'.length → f i = f j → i = j)
    (hget : ∀ (j : Nat) (o' : Ob), heap'[j]? = some o' → ∃ o, heap[f j]? = some o ∧ o' = upO g o) (hg : ∀ i j, i < heap.length → g i = some j → f j = i ∧ j < heap'.length) (hH : ∀ i, i < e.H.length → i < heap.length → i < heap'.length ∧ f i = i) :
    ∃ ρ', Ok e heap' w ρ' Z Y ∧ ∀ x v, Val (Kn heap) ρ w Z Y x v → Val (Kn heap') ρ' w Z Y (upA g x) v := by
  let ρ' : Rho := fun j k => ρ (f j) k
  have kn : ∀ (j k : Nat), j < heap'.length → Kn heap (f j) k → Kn heap' j k := fun j k hj ⟨o, ho, hk⟩ => by
    obtain ⟨o1, h1, h2⟩ := hget j _ (List.getElem?_eq_getElem hj)
    rw [ho] at h1; cases h1
    exact ⟨_, List.getElem?_eq_getElem hj, by rw [h2, upO_lim]; exact hk⟩
  have up : ∀ i k j, g i = some j → Kn heap i k → Kn heap' j k ∧ ρ' j k = ρ i k := fun i k j hj hk => by
    have hlt : i < heap.length := hk.elim fun _ h => get_lt h.1
    obtain ⟨h1, h2⟩ := hg i j hlt hj
    subst h1
    exact ⟨kn j k h2 hk, rfl⟩
  have hval : ∀ x v, Val (Kn heap) ρ w Z Y x v → Val (Kn heap') ρ' w Z Y (upA g x) v := fun x v hv => val_up up hv
  have blk : ∀ (j : Nat) (o : Ob), (upO g o).blk ρ' j = o.blk ρ (f j) := fun j o => upO_blk fun k _ => rfl
  refine ⟨ρ', ⟨⟨fun j o' hj => ?_, fun i j o o' b hi hj hp hq => ?_, fun j o' b hj hp => ?_, h.rep.zy, h.rep.ylt⟩, fun j o' b hj hp => ?_, h.zone, h.z0, h.y0, fun i k hk => ?_, h.os, h.tape, h.output, h.size, h.keep⟩, hval⟩
  · obtain ⟨o, h1, rfl⟩ := hget j o' hj
    exact upO_holds up (fun k _ => rfl) (h.rep.obs _ o h1)
  · obtain ⟨p, h1, rfl⟩ := hget i o hi
    obtain ⟨q, h2, rfl⟩ := hget j o' hj
    rw [blk] at hp hq
    exact hinj i j (get_lt hi) (get_lt hj) (h.rep.apart _ _ p q b h1 h2 hp hq)
  · obtain ⟨o, h1, rfl⟩ := hget j o' hj
    rw [blk] at hp
    exact h.rep.own _ o b h1 hp
  · obtain ⟨o, h1, rfl⟩ := hget j o' hj
    rw [blk] at hp
    exact h.dom _ o b h1 hp
  · obtain ⟨h1, h2⟩ := h.rho i k hk
    have hi : i < e.H.length := by obtain ⟨o, ho, _⟩ := hk; exact get_lt ho
    have hi' : i < heap.length := by obtain ⟨o, ho, _⟩ := h1; exact get_lt ho
    obtain ⟨h3, h4⟩ := hH i hi hi'
    refine ⟨kn i k h3 (by rw [h4]; exact h1), ?_⟩
    show ρ (f i) k = _
    rw [h4]; exact h2
def keepG (m : Nat) : Nat → Option Nat := fun i => bif Nat.blt i m then some i else none
theorem keepG_some {m i j : Nat} (h : keepG m i = some j) : j = i ∧ i < m := by
  unfold keepG at h
  cases hb : Nat.blt i m with
  | true => rw [hb] at h; cases h; exact ⟨rfl, Nat.le_of_ble_eq_true hb⟩
  | false => rw [hb] at h; cases h
def Fg (g : Nat → Option Nat) (T T' : Nat → AV) : Prop := ∀ t, T' t = .any ∨ T' t = upA g (T t)
theorem Fg.nil {g : Nat → Option Nat} : Fg g T (fun _ => .any) := fun _ => .inl rfl
theorem Fg.pu {g : Nat → Option Nat} {T' : Nat → AV} {d : Nat} {x : AV} (hx : upA g (T d) = x) (k : Fg g T T') : Fg g T (pu T' d x) := fun t => by
  cases hb : Nat.beq t d with
  | true =>
    have := Nat.eq_of_beq_eq_true hb
    subst this
    simp only [Go.Proofs.Ytmljglphegeilaa.pu, Nat.beq_refl, cond_true]
    exact .inr hx.symm
  | false =>
    simp only [Go.Proofs.Ytmljglphegeilaa.pu, hb, cond_false]
    exact k t
theorem Wk.cut {T' : Nat → AV} {heap' : List Ob} (m : Nat) (hm : n.h ≤ m) (hh : (heap.take m).map (upO (keepG m)) = heap') (hT : Fg (keepG m) T T') : Wk n T heap T' heap' := by
  subst hh
  rintro e a w ⟨ρ, Z, Y, hR⟩
  have hlen : ((heap.take m).map (upO (keepG m))).length = min m heap.length := by simp
  obtain ⟨ρ', k1, k2⟩ := Ok.sel (heap := heap) hR.ok (heap' := (heap.take m).map (upO (keepG m))) id (keepG m) (fun i j _ _ h => h) (fun j o' hj => by
    rw [List.getElem?_map, List.getElem?_take] at hj
    split at hj
    · cases hx : heap[j]? with
      | none => rw [hx] at hj; cases hj
      | some o => rw [hx] at hj; cases hj; exact ⟨o, hx, rfl⟩
    · cases hj) (fun i j hi hj => by
    obtain ⟨rfl, h2⟩ := keepG_some hj
    exact ⟨rfl, by rw [hlen]; omega⟩) (fun i h1 h2 => by
    have h3 : e.H.length ≤ n.h := hR.hl
    exact ⟨by rw [hlen]; omega, rfl⟩)
  refine ⟨ρ', Z, Y, k1, hR.defers, hR.n, hR.hl, fun t v ht => ?_⟩
  rcases hT t with h | h
  · show Val _ _ _ _ _ (T' t) _
    rw [h]; exact .any _
  · show Val _ _ _ _ _ (T' t) _
    rw [h]; exact k2 _ _ (hR.at_ t v ht)
theorem Wk.own (d : Nat) (hd : T d = .nl) (E : TypeId) (size : Nat) {heap' : List Ob} {N : Nat} (hat : AtL heap N [.row 0 E size []] heap') : Wk n T heap (pu T d (.sl N 0 0)) heap' := by
  rintro en a w ⟨ρ, Z, Y, hR⟩
  by_cases hdn : d < a.tmps.size
  · have hv := hR.at_ d _ (Array.getElem?_eq_getElem hdn)
    rw [show (St.mk n T heap).tmps d = .nl from hd] at hv
    generalize hav : a.tmps[d] = v at hv
    cases hv with
    | nl sa =>
    obtain ⟨ρ', k1, k2, k3, k4⟩ := hR.ok.push1 (o := .row 0 E size []) hat (w' := w) (pl := ⟨sa, 0, size⟩) ⟨rfl, rfl, rfl⟩ (Nat.le_refl _) (fun _ _ => rfl)
      (fun ρ' hN hρ => ⟨by rw [hN], [], .nil, by rw [hN]; exact .inl ⟨rfl, rfl, rfl⟩⟩) (fun b _ hb => by simp [Ob.blk] at hb)
    refine ⟨ρ', Z, Y, k1, hR.defers, hR.n, hR.hl, fun t v ht => ?_⟩
    by_cases e : t = d
    · subst e
      rw [Array.getElem?_eq_getElem hdn, hav] at ht
      cases ht
      have := Val.sl (Kn := Kn heap') (ρ := ρ') (w := w) (Z := Z) (Y := Y) (i := N) (k := 0) (n := 0) ⟨_, hat.one, Nat.le_refl _⟩ (Nat.zero_le _) (by rw [k3]; intro _; rfl)
      rw [k3] at this
      show Val _ _ _ _ _ (pu T t _ t) _
      simp only [pu, Nat.beq_refl, cond_true]
      exact this
    · have h1 : Nat.beq t d = false := by
        cases hb : Nat.beq t d
        · rfl
        · exact absurd (Nat.eq_of_beq_eq_true hb) e
      show Val _ _ _ _ _ (pu T d _ t) _
      simp only [pu, h1, cond_false]
      exact k2 _ _ (hR.at_ t v ht)
  · obtain ⟨ρ', k1, k2, k3, k4⟩ := hR.ok.push1 (o := .row 0 E size []) hat (w' := w) (pl := ⟨none, 0, size⟩) ⟨rfl, rfl, rfl⟩ (Nat.le_refl _) (fun _ _ => rfl)
      (fun ρ' hN hρ => ⟨by rw [hN], [], .nil, by rw [hN]; exact .inl ⟨rfl, rfl, rfl⟩⟩) (fun b _ hb => by simp [Ob.blk] at hb)
    refine ⟨ρ', Z, Y, k1, hR.defers, hR.n, hR.hl, fun t v ht => ?_⟩
    have e : t ≠ d := fun e => by rw [e] at ht; rw [Array.getElem?_eq_none (by omega)] at ht; cases ht
    have h1 : Nat.beq t d = false := by
      cases hb : Nat.beq t d
      · rfl
      · exact absurd (Nat.eq_of_beq_eq_true hb) e
    show Val _ _ _ _ _ (pu T d _ t) _
    simp only [pu, h1, cond_false]
    exact k2 _ _ (hR.at_ t v ht)
theorem AW.loop {c : Code} {ι : Type} (S : ι → Nat → AV) (H : ι → List Ob) (m : ι → Nat) (i0 : ι) (h0 : Wk n T heap (S i0) (H i0)) (hr : ∀ i, AW P c (thenQ (fun T' h' => ∃ j, m j < m i ∧ Wk n T' h' (S j) (H j)) Q) n (S i) (H i)) : AW P (.loop c) Q n T heap := by
  intro e a w hR b k cs
  have key : ∀ q i, m i = q → ∀ a w, Rep e ⟨n, S i, H i⟩ a w → ∃ ex a' w', lift e n Q ex a' w' ∧ Arrives P (lone (b.at a (.code c :: .inLoop c :: k)) cs w) b k cs ex a' w' := by
    intro q
    induction q using Nat.strongRecOn with
    | _ q ih =>
      intro i hi a w hI
      obtain ⟨ex, a₁, w₁, ⟨T', h', hq, hR'⟩, harr⟩ := hr i e a w hI b (.inLoop c :: k) cs
      cases ex with
      | normal =>
        obtain ⟨j, hj, hw⟩ := hq
        obtain ⟨e₂, a₂, w₂, hq₂, harr₂⟩ := ih (m j) (by omega) j rfl a₁ w₁ (hw e a₁ w₁ hR')
        exact ⟨e₂, a₂, w₂, hq₂, .of_steps (Steps.trans harr (.one step_inLoop)) harr₂⟩
      | exit id => exact ⟨_, a₁, w₁, ⟨T', h', hq, hR'⟩, .pass (x := .inLoop c) rfl (fun _ _ => .inl (by simp)) harr⟩
      | goto l => exact ⟨_, a₁, w₁, ⟨T', h', hq, hR'⟩, .pass (x := .inLoop c) rfl (fun _ _ => .inl (by simp)) harr⟩
      | ret => exact ⟨_, a₁, w₁, ⟨T', h', hq, hR'⟩, .pass (x := .inLoop c) rfl (fun _ _ => .inl (by simp)) harr⟩
      | panic ch => exact ⟨_, a₁, w₁, ⟨T', h', hq, hR'⟩, .pass (x := .inLoop c) rfl (fun _ _ => .inl (by simp)) harr⟩
      | outgrown => exact ⟨_, a₁, w₁, ⟨T', h', hq, hR'⟩, .pass (x := .inLoop c) rfl (fun _ _ => .inl (by simp)) harr⟩
  obtain ⟨ex, a', w', hq, harr⟩ := key _ i0 rfl a w (h0 e a w hR)
  exact ⟨ex, a', w', hq, .of_steps (.one step_loop) harr⟩

def Fin (P : Program) (fn : Func) (R : AV → List Ob → Prop) (n : Fr) (T : Nat → AV) (heap : List Ob) : Prop :=
  ∀ e a w, Rep e ⟨n, T, heap⟩ a w → ∃ v r heap' ρ Z Y, (results fn a.tmps).run P w = .ok v w ∧ R r heap' ∧ Ok e heap' w ρ Z Y ∧ Val (Kn heap') ρ w Z Y r v
def retQ (P : Program) (fn : Func) (R : AV → List Ob → Prop) (n : Fr) : QS := fun ex T heap => match ex with
  | .normal => Fin P fn R n T heap
  | .ret => Fin P fn R n T heap
  | _ => False
theorem Fin.wk {fn : Func} {R : AV → List Ob → Prop} {T' : Nat → AV} {heap' : List Ob} (h : Wk n T heap T' heap') (k : Fin P fn R n T' heap') : Fin P fn R n T heap := fun e a w hR => k e a w (h e a w hR)
inductive ResA (P : Program) (n : Fr) (T : Nat → AV) (heap : List Ob) : ResultVar → AV → Prop
  | tmp {t : Nat} {x : AV} (h : evA n T (.tmp t) = x) : ResA P n T heap (.tmp t) x
  | cell {t i off : Nat} {ty t' : TypeId} {cs : List AV} {ds : TypeDesc} {x : AV} (h : evA n T (.tmp t) = .ptr i off) (hi : heap[i]? = some (.box t' cs)) (hu : P.underlying ty = some ds) (ha : (match ds with | .struct _ | .array _ _ => true | _ => false) = false) (hc : cs[off]? = some x) : ResA P n T heap (.cell t ty) x
  | agg {t i off : Nat} {ty t' : TypeId} {cs : List AV} {ds : TypeDesc} {z : Option Value} {size bytes : Nat} {us : List AV} (h : evA n T (.tmp t) = .ptr i off) (hi : heap[i]? = some (.box t' cs)) (hu : P.underlying ty = some ds) (ha : (match ds with | .struct _ | .array _ _ => true | _ => false) = true)
      (hI : (P.info? ty).map (fun i => (i.zero, i.size, i.bytes)) = some (z, size, bytes)) (hc : (cs.drop off).take size = us) (hl : us.length = size) : ResA P n T heap (.cell t ty) (.agg us)
inductive ResL (P : Program) (n : Fr) (T : Nat → AV) (heap : List Ob) : List ResultVar → List AV → Prop
  | nil : ResL P n T heap [] []
  | cons {r : ResultVar} {x : AV} {rs : List ResultVar} {xs : List AV} (h : ResA P n T heap r x) (k : ResL P n T heap rs xs) : ResL P n T heap (r :: rs) (x :: xs)
theorem ResA.run {e : Env} {a : Act} {w : World} {ρ : Rho} {Z Y : Nat → Prop} (hR : Rp e ⟨n, T, heap⟩ a w ρ Z Y) {r : ResultVar} {x : AV} (h : ResA P n T heap r x) : ∃ v, (resOf a.tmps r).run P w = .ok v w ∧ Val (Kn heap) ρ w Z Y x v := by
  cases h with
  | @tmp t x h =>
    have hv := hR.eval (.tmp t)
    rw [h] at hv
    exact ⟨_, resOf_tmp t rfl, hv⟩
  | @cell t i off ty t' cs ds x h hi hu ha hc =>
    have hv := hR.eval (.tmp t)
    rw [h] at hv
    obtain ⟨b, us, h1, _, h2, h3, h4⟩ := hR.ok.rep.box hi hv
    have hlt := get_lt hc
    rw [h3.len] at hlt
    exact ⟨us[off], resOf_cell t h1 (run_load_one hu ha (by rw [cell_of_row w b off _ _ _ h2]; simp [List.getElem?_eq_getElem hlt])), h3.at_ off x _ hc (List.getElem?_eq_getElem hlt)⟩
  | @agg t i off ty t' cs ds z size bytes us' h hi hu ha hI hc hl =>
    have hv := hR.eval (.tmp t)
    rw [h] at hv
    obtain ⟨b, us, h1, _, h2, h3, h4⟩ := hR.ok.rep.box hi hv
    subst hc
    have hlen : ((us.drop off).take size).length = size := by
      rw [List.length_take, List.length_drop] at hl ⊢
      rw [h3.len] at hl; exact hl
    refine ⟨.agg ((us.drop off).take size).toArray, resOf_cell t h1 (run_load_agg hu ha hI hlen fun j u hj => ?_), .agg (by rw [hl, hlen]) (fun u hu => h4 u (List.mem_of_mem_drop (List.mem_of_mem_take hu))) (fun j x u hj hu => ?_)⟩
    · rw [add_at, cell_of_row w b _ _ _ _ h2]
      rw [List.getElem?_take] at hj
      split at hj
      · rw [List.getElem?_drop] at hj; simpa using hj
      · cases hj
    · rw [List.getElem?_take] at hj hu
      split at hj
      · rename_i hlt
        rw [if_pos hlt] at hu
        rw [List.getElem?_drop] at hj hu
        exact h3.at_ _ x u hj hu
      · cases hj
theorem ResL.run {e : Env} {a : Act} {w : World} {ρ : Rho} {Z Y : Nat → Prop} (hR : Rp e ⟨n, T, heap⟩ a w ρ Z Y) {rs : List ResultVar} {xs : List AV} (h : ResL P n T heap rs xs) : ∃ vs, (rs.mapM (resOf a.tmps)).run P w = .ok vs w ∧ AVs (Val (Kn heap) ρ w Z Y) xs vs := by
  induction h with
  | nil => exact ⟨[], rfl, rfl, fun j x u hj => by simp at hj⟩
  | @cons r x rs xs h k ih =>
    obtain ⟨v, h1, h2⟩ := h.run hR
    obtain ⟨vs, h3, h4⟩ := ih
    refine ⟨v :: vs, ?_, by simp [h4.len], fun j y u hj hu => ?_⟩
    · rw [List.mapM_cons]
      simp only [Sem.run_bind, h1, Result.andThen_ok, h3, Sem.run_pure]
    · cases j with
      | zero => simp at hj hu; subst hj hu; exact h2
      | succ j => exact h4.at_ j y u (by simpa using hj) (by simpa using hu)
def resV : List AV → AV
  | [x] => x
  | l => .tup l
def findG (l : List Nat) (h i : Nat) : Option Nat := match l with
  | [] => none
  | x :: l => bif Nat.beq x i then some h else findG l (h + 1) i
def compG (h : Nat) (K : List Nat) : Nat → Option Nat := fun i => bif Nat.blt i h then some i else findG K h i
theorem findG_some : ∀ {l : List Nat} {h i j : Nat}, findG l h i = some j → h ≤ j ∧ l[j - h]? = some i
  | [], h, i, j, e => by simp [findG] at e
  | x :: l, h, i, j, e => by
    unfold findG at e
    cases hb : Nat.beq x i with
    | true => rw [hb] at e; cases e; have := Nat.eq_of_beq_eq_true hb; subst this; exact ⟨Nat.le_refl _, by simp⟩
    | false =>
      rw [hb] at e
      obtain ⟨h1, h2⟩ := findG_some e
      refine ⟨by omega, ?_⟩
      rw [show j - h = (j - (h + 1)) + 1 by omega]
      simpa using h2
theorem Fin.mk {fn : Func} {R : AV → List Ob → Prop} {rs : List ResultVar} (hrs : fn.results = rs.toArray) {xs : List AV} (hx : ResL P n T heap rs xs) (K : List Nat) (hK : K.Nodup) (hK1 : ∀ i ∈ K, n.h ≤ i ∧ i < heap.length) (hn : n.h ≤ heap.length)
    {r : AV} (hr : upA (compG n.h K) (resV xs) = r) {heap' : List Ob} (hh : ((heap.take n.h) ++ K.map (fun i => heap.getD i (.gone 0))).map (upO (compG n.h K)) = heap') (hR : R r heap') : Fin P fn R n T heap := by
  subst hr hh
  rintro e a w ⟨ρ, Z, Y, hRp⟩
  obtain ⟨vs, h1, h2⟩ := hx.run hRp
  have hlt : (heap.take n.h).length = n.h := by rw [List.length_take]; omega
  have hlen : (((heap.take n.h) ++ K.map (fun i => heap.getD i (.gone 0))).map (upO (compG n.h K))).length = n.h + K.length := by simp; omega
  let f : Nat → Nat := fun j => if j < n.h then j else K.getD (j - n.h) 0
  have hf : ∀ j, j < n.h + K.length → ¬ j < n.h → K[j - n.h]? = some (f j) := fun j hj hn' => by
    show _ = some (if j < n.h then j else K.getD (j - n.h) 0)
    rw [if_neg hn', List.getD_eq_getElem?_getD, List.getElem?_eq_getElem (by omega)]
    rfl
  obtain ⟨ρ', k1, k2⟩ := Ok.sel (heap := heap) hRp.ok (heap' := ((heap.take n.h) ++ K.map (fun i => heap.getD i (.gone 0))).map (upO (compG n.h K))) f (compG n.h K) (fun i j hi hj h => by
    rw [hlen] at hi hj
    by_cases ci : i < n.h <;> by_cases cj : j < n.h
    · simpa only [f, if_pos ci, if_pos cj] using h
    · have := hK1 _ (List.mem_of_getElem? (hf j hj cj))
      rw [← h] at this
      simp only [f, if_pos ci] at this; omega
    · have := hK1 _ (List.mem_of_getElem? (hf i hi ci))
      rw [h] at this
      simp only [f, if_pos cj] at this; omega
    · have e1 := hf i hi ci
      have e2 := hf j hj cj
      rw [← h] at e2
      have key : ∀ p q, p < q → K[p]? = some (f i) → K[q]? = some (f i) → False := fun p q hpq h1 h2 => by
        have a1 := get_lt h1
        have a2 := get_lt h2
        rw [List.getElem?_eq_getElem a1] at h1
        rw [List.getElem?_eq_getElem a2] at h2
        exact List.pairwise_iff_getElem.1 hK p q a1 a2 hpq ((Option.some.inj h1).trans (Option.some.inj h2).symm)
      rcases Nat.lt_trichotomy (i - n.h) (j - n.h) with c | c | c
      · exact (key _ _ c e1 e2).elim
      · omega
      · exact (key _ _ c e2 e1).elim) (fun j o' hj => by
    have hjl := get_lt hj
    rw [hlen] at hjl
    rw [List.getElem?_map] at hj
    by_cases cj : j < n.h
    · rw [List.getElem?_append_left (by omega), List.getElem?_take, if_pos cj] at hj
      cases hx : heap[j]? with
      | none => rw [hx] at hj; cases hj
      | some o => rw [hx] at hj; cases hj; exact ⟨o, by simp only [f, if_pos cj]; exact hx, rfl⟩
    · rw [List.getElem?_append_right (by omega), hlt, List.getElem?_map, hf j hjl cj] at hj
      have hb := hK1 _ (List.mem_of_getElem? (hf j hjl cj))
      simp only [Option.map_some, List.getD_eq_getElem?_getD, List.getElem?_eq_getElem hb.2, Option.getD_some, Option.some.injEq] at hj
      exact ⟨_, List.getElem?_eq_getElem hb.2, hj.symm⟩) (fun i j hi hj => by
    rw [hlen]
    unfold compG at hj
    cases hb : Nat.blt i n.h with
    | true => rw [hb] at hj; cases hj; have := Nat.le_of_ble_eq_true hb; exact ⟨by simp only [f]; rw [if_pos (by omega)], by omega⟩
    | false =>
      rw [hb] at hj
      obtain ⟨h3, h4⟩ := findG_some hj
      have := get_lt h4
      refine ⟨?_, by omega⟩
      have h5 := hf j (by omega) (by omega)
      rw [h4] at h5
      exact (Option.some.inj h5).symm) (fun i h3 h4 => by
    have h5 : e.H.length ≤ n.h := hRp.hl
    exact ⟨by rw [hlen]; omega, by simp only [f]; rw [if_pos (by omega)]⟩)
  have hres : (results fn a.tmps).run P w = .ok (match vs with | [v] => v | l => .tuple l.toArray) w := by
    rw [results_eq, hrs]
    have hm : ((rs.toArray).mapM (resOf a.tmps)).run P w = .ok vs.toArray w := by
      rw [List.mapM_toArray]
      simp only [map_eq_pure_bind, Sem.run_bind, h1, Result.andThen_ok, Sem.run_pure]
    simp only [Sem.run_bind, hm, Result.andThen_ok]
    match vs with
    | [] => rfl
    | [v] => rfl
    | v :: u :: l => simp
  refine ⟨_, _, _, ρ', Z, Y, hres, hR, k1, k2 _ _ ?_⟩
  match xs, vs, h2 with
  | [], [], _ => exact .tup (us := []) rfl (fun j x u hj => by simp at hj)
  | [x], [v], h2 => exact h2.at_ 0 x v rfl rfl
  | x :: y :: l, v :: u :: m, h2 => exact .tup h2.len h2.at_
  | [], _ :: _, h2 => have := h2.len; simp at this
  | [_], [], h2 => have := h2.len; simp at this
  | [_], _ :: _ :: _, h2 => have := h2.len; simp at this
  | _ :: _ :: _, [], h2 => have := h2.len; simp at this
  | _ :: _ :: _, [_], h2 => have := h2.len; simp at this
def argT (args : List AV) : Nat → AV := fun t => args.getD t (.tup [])
theorem C.enter {f : FuncId} {fn : Func} {c : Code} (hf : P.funcs[f]? = some fn) (hb : fn.body = some c) {args : List AV} {H : List Ob} {R : AV → List Ob → Prop} {N : Nat} (hN : max args.length fn.ntmps = N) (h : AW P c (retQ P fn R ⟨N, H.length⟩) ⟨N, H.length⟩ (argT args) H) : C P f args H R := by
  subst hN
  intro e vs hH hrep hdom hv
  refine calls_of_wp hf hb (wp_mono (h e _ e.W ?_) fun ex a w ⟨T', h', q, hR'⟩ => ?_)
  · have hl := hv.len
    refine ⟨e.ρ, e.Z, e.Y, ⟨hrep, hdom, fun b h => .inl h, fun b h => h, fun b h => h, fun i k hk => ⟨by rw [hH] at hk; exact hk, rfl⟩, rfl, rfl, rfl, Nat.le_refl _, fun b _ => rfl⟩, rfl, by simp; omega, by rw [hH]; exact Nat.le_refl _, fun t v ht => ?_⟩
    show Val _ _ _ _ _ (argT args t) _
    simp only at ht
    by_cases hlt : t < vs.length
    · rw [Array.getElem?_append_left (by simpa using hlt)] at ht
      have h1 : vs[t]? = some v := by simpa using ht
      have h2 : args[t]? = some (args[t]'(by omega)) := List.getElem?_eq_getElem (by omega)
      simp only [argT, List.getD_eq_getElem?_getD, h2, Option.getD_some]
      exact hv.at_ t _ v h2 h1
    · rw [Array.getElem?_append_right (by simpa using hlt), Array.getElem?_replicate] at ht
      split at ht
      · cases ht
        have h2 : args[t]? = none := List.getElem?_eq_none (by omega)
        simp only [argT, List.getD_eq_getElem?_getD, h2, Option.getD_none]
        exact .tup (us := []) rfl (fun j x u hj => by simp at hj)
      · cases ht
  · obtain ⟨_, _, _, hR''⟩ := hR'
    have key : ∀ hF : Fin P fn R ⟨max args.length fn.ntmps, H.length⟩ T' h', a.defers = [] ∧ ∃ v, (results fn a.tmps).run P w = .ok v w ∧ ∃ v' r heap ρ Z Y, Ending.returned v = .returned v' ∧ R r heap ∧ Ok e heap w ρ Z Y ∧ Val (Kn heap) ρ w Z Y r v' := fun hF => by
      obtain ⟨v, r, heap', ρ, Z, Y, h1, h2, h3, h4⟩ := hF e a w ⟨_, _, _, hR''⟩
      exact ⟨hR''.defers, v, h1, v, r, heap', ρ, Z, Y, rfl, h2, h3, h4⟩
    cases ex with
    | normal => exact key q
    | ret => exact key q
    | _ => exact q.elim
end
end Go.Proofs.Ytmljglphegeilaa

namespace Go.Proofs.Ytmljglphegeilaa
set_option linter.unusedVariables false
set_option linter.unusedSimpArgs false
set_option linter.unnecessarySimpa false
open Go.RowKit
def cvsA : List AV → Option (List Value)
  | [] => some []
  | .t (.v u) :: l => (cvsA l).map (u :: ·)
  | _ => none
def cvA : AV → Option Value
  | .t (.v u) => some u
  | .agg l => (cvsA l).map fun us => .agg us.toArray
  | _ => none
section
variable {w : World} {ρ : Rho} {Z Y : Nat → Prop} {Kn : Nat → Nat → Prop}
theorem cvsA_open : ∀ {l : List AV} {us vs : List Value}, cvsA l = some us → AVs (Val Kn ρ w Z Y) l vs → vs = us
  | [], us, vs, h, hv => by cases h; have := hv.len; exact List.eq_nil_of_length_eq_zero this.symm
  | x :: l, us, [], h, hv => by have := hv.len; simp at this
  | x :: l, us, v :: vs, h, hv => by
    unfold cvsA at h
    split at h
    · rename_i h1; cases h1
    · rename_i u l' h1
      cases h1
      cases hc : cvsA l with
      | none => rw [hc] at h; cases h
      | some ms =>
        rw [hc] at h; cases h
        have := hv.at_ 0 _ v rfl rfl
        cases this with
        | t h =>
          cases h
          have h5 := cvsA_open (us := ms) (vs := vs) hc ⟨by have := hv.len; simpa using this, fun j x u hj hu => hv.at_ (j + 1) x u (by simpa using hj) (by simpa using hu)⟩
          rw [h5]
    · cases h
theorem cvA_open {x : AV} {u v : Value} (h : cvA x = some u) (hv : Val Kn ρ w Z Y x v) : v = u := by
  cases hv <;> simp [cvA] at h
  · rename_i x h'
    cases x with
    | v => cases h; cases h'; rfl
    | lst => cases h
  · rename_i h1 ho hu
    obtain ⟨us, h2, h3⟩ := h
    rw [← h3, cvsA_open h2 ⟨h1, hu⟩]
end
section
variable {P : Program} {ops : Array Oper} {Q : QS} {rest : List Oper} {o : Oper} {n : Fr} {T : Nat → AV} {heap : List Ob} {d : Nat}
theorem A_bin (hw : wantedA n T ops o = true) (hd : o.dst = some d) (op : BinOp) (xt yt : TypeId) (x y : Operand) (ho : o.op = .binOp op xt x y yt) {u v : Value} (hx : cvA (evA n T x) = some u) (hy : cvA (evA n T y) = some v) {r : Value}
    (hr : ∀ w, (do eqGuard op xt x y u v; binOp op xt u v : Sem Value).run P w = .ok r w) (h1 : r.oneCell' = true) (k : AL P ops Q rest n (pu T d (.t (.v r))) heap) : AL P ops Q (o :: rest) n T heap := by
  refine AL.val hw hd (fun en a w ρ Z Y hR => ?_) k
  have e1 := cvA_open hx (hR.eval x)
  have e2 := cvA_open hy (hR.eval y)
  refine ⟨r, val_of (s := do eqGuard op xt x y (a.eval x) (a.eval y); binOp op xt (a.eval x) (a.eval y)) (by unfold execOp; rw [ho]) ?_, .t (.v h1)⟩
  rw [e1, e2]; exact hr w
theorem int_guard {op : BinOp} {xt : TypeId} {x y : Operand} {k k' : IntKind} {a b : Int} {P : Program} {w : World} {s : Sem Value} : (do eqGuard op xt x y (.int k a) (.int k' b); s : Sem Value).run P w = s.run P w := by
  unfold eqGuard
  cases op <;> simp [Result.andThen]
theorem A_add (hw : wantedA n T ops o = true) (hd : o.dst = some d) (xt yt : TypeId) (x y : Operand) (ho : o.op = .binOp .add xt x y yt) {k : IntKind} {a b : Int} (hx : evA n T x = .t (.v (.int k a))) (hy : evA n T y = .t (.v (.int k b))) {c : Int} (hc : k.wrap (a + b) = c)
    (k' : AL P ops Q rest n (pu T d (.t (.v (.int k c)))) heap) : AL P ops Q (o :: rest) n T heap := by
  subst hc
  exact A_bin hw hd _ _ _ _ _ ho (by rw [hx]; rfl) (by rw [hy]; rfl) (fun w => by rw [int_guard]; simp [binOp, Op.intArith]) rfl k'
theorem A_sub (hw : wantedA n T ops o = true) (hd : o.dst = some d) (xt yt : TypeId) (x y : Operand) (ho : o.op = .binOp .sub xt x y yt) {k : IntKind} {a b : Int} (hx : evA n T x = .t (.v (.int k a))) (hy : evA n T y = .t (.v (.int k b))) {c : Int} (hc : k.wrap (a - b) = c)
    (k' : AL P ops Q rest n (pu T d (.t (.v (.int k c)))) heap) : AL P ops Q (o :: rest) n T heap := by
  subst hc
  exact A_bin hw hd _ _ _ _ _ ho (by rw [hx]; rfl) (by rw [hy]; rfl) (fun w => by rw [int_guard]; simp [binOp, Op.intArith]) rfl k'
theorem A_mul (hw : wantedA n T ops o = true) (hd : o.dst = some d) (xt yt : TypeId) (x y : Operand) (ho : o.op = .binOp .mul xt x y yt) {k : IntKind} {a b : Int} (hx : evA n T x = .t (.v (.int k a))) (hy : evA n T y = .t (.v (.int k b))) {c : Int} (hc : k.wrap (a * b) = c)
    (k' : AL P ops Q rest n (pu T d (.t (.v (.int k c)))) heap) : AL P ops Q (o :: rest) n T heap := by
  subst hc
  exact A_bin hw hd _ _ _ _ _ ho (by rw [hx]; rfl) (by rw [hy]; rfl) (fun w => by rw [int_guard]; simp [binOp, Op.intArith]) rfl k'
theorem A_quo (hw : wantedA n T ops o = true) (hd : o.dst = some d) (xt yt : TypeId) (x y : Operand) (ho : o.op = .binOp .quo xt x y yt) {k : IntKind} {a b : Int} (hx : evA n T x = .t (.v (.int k a))) (hy : evA n T y = .t (.v (.int k b))) (hb : b ≠ 0) {c : Int} (hc : k.wrap (a.tdiv b) = c)
    (k' : AL P ops Q rest n (pu T d (.t (.v (.int k c)))) heap) : AL P ops Q (o :: rest) n T heap := by
  subst hc
  exact A_bin hw hd _ _ _ _ _ ho (by rw [hx]; rfl) (by rw [hy]; rfl) (fun w => by rw [int_guard]; simp [binOp, Op.intDiv, hb]) rfl k'
theorem A_rem (hw : wantedA n T ops o = true) (hd : o.dst = some d) (xt yt : TypeId) (x y : Operand) (ho : o.op = .binOp .rem xt x y yt) {k : IntKind} {a b : Int} (hx : evA n T x = .t (.v (.int k a))) (hy : evA n T y = .t (.v (.int k b))) (hb : b ≠ 0) {c : Int} (hc : a.tmod b = c)
    (k' : AL P ops Q rest n (pu T d (.t (.v (.int k c)))) heap) : AL P ops Q (o :: rest) n T heap := by
  subst hc
  exact A_bin hw hd _ _ _ _ _ ho (by rw [hx]; rfl) (by rw [hy]; rfl) (fun w => by rw [int_guard]; simp [binOp, Op.intDiv, hb]) rfl k'
def cmpR (op : BinOp) (a b : Int) : Option Bool := match op with
  | .eql => some (decide (a = b))
  | .neq => some (decide (a ≠ b))
  | .lss => some (decide (a < b))
  | .leq => some (decide (a ≤ b))
  | .gtr => some (decide (b < a))
  | .geq => some (decide (b ≤ a))
  | _ => none
theorem A_cmp (hw : wantedA n T ops o = true) (hd : o.dst = some d) (op : BinOp) (xt yt : TypeId) (x y : Operand) (ho : o.op = .binOp op xt x y yt) {k : IntKind} {a b : Int} (hx : evA n T x = .t (.v (.int k a))) (hy : evA n T y = .t (.v (.int k b))) {c : Bool} (hc : cmpR op a b = some c)
    (k' : AL P ops Q rest n (pu T d (.t (.v (.bool c)))) heap) : AL P ops Q (o :: rest) n T heap := by
  refine A_bin hw hd _ _ _ _ _ ho (by rw [hx]; rfl) (by rw [hy]; rfl) (fun w => ?_) rfl k'
  rw [int_guard]
  cases op <;> simp only [cmpR] at hc <;> cases hc <;> simp only [binOp, Op.intCmp, ne_eq, not_true_eq_false, if_false, Sem.run_pure]
  all_goals first | rfl | (by_cases h : a = b <;> simp [h])
theorem run_equalIn_bool {w : World} {t : TypeId} (ht : P.underlying t = some .bool) (dd : Nat) (a b : Bool) : (Op.equalIn (dd + 1) t (.bool a) (.bool b)).run P w = .ok (a == b) w := by
  simp [Op.equalIn, run_underlying ht, Result.andThen]
theorem guard_bool {op : BinOp} {xt : TypeId} {x y : Operand} {a b : Bool} {w : World} : (eqGuard op xt x y (.bool a) (.bool b)).run P w = .ok () w := by
  unfold eqGuard
  cases op <;> simp
theorem guard_slice {op : BinOp} {xt : TypeId} {x y : Operand} {a b : Option Addr} {l m c e : Nat} {w : World} : (eqGuard op xt x y (.slice a l c) (.slice b m e)).run P w = .ok () w := by
  unfold eqGuard
  cases op <;> simp
theorem A_beq (hw : wantedA n T ops o = true) (hd : o.dst = some d) (xt yt : TypeId) (x y : Operand) (ho : o.op = .binOp .eql xt x y yt) (ht : P.underlying xt = some .bool) {a b : Bool} (hx : evA n T x = .t (.v (.bool a))) (hy : evA n T y = .t (.v (.bool b)))
    (k' : AL P ops Q rest n (pu T d (.t (.v (.bool (a == b))))) heap) : AL P ops Q (o :: rest) n T heap :=
  A_bin hw hd _ _ _ _ _ ho (by rw [hx]; rfl) (by rw [hy]; rfl) (fun w => by
    simp only [Sem.run_bind, guard_bool, Result.andThen_ok, binOp, Op.equal, Op.maxDepth, run_equalIn_bool ht 9999, Sem.run_pure]) rfl k'
theorem A_bne (hw : wantedA n T ops o = true) (hd : o.dst = some d) (xt yt : TypeId) (x y : Operand) (ho : o.op = .binOp .neq xt x y yt) (ht : P.underlying xt = some .bool) {a b : Bool} (hx : evA n T x = .t (.v (.bool a))) (hy : evA n T y = .t (.v (.bool b)))
    (k' : AL P ops Q rest n (pu T d (.t (.v (.bool (!(a == b)))))) heap) : AL P ops Q (o :: rest) n T heap :=
  A_bin hw hd _ _ _ _ _ ho (by rw [hx]; rfl) (by rw [hy]; rfl) (fun w => by
    simp only [Sem.run_bind, guard_bool, Result.andThen_ok, binOp, Op.equal, Op.maxDepth, run_equalIn_bool ht 9999, Sem.run_pure]) rfl k'
theorem A_not (hw : wantedA n T ops o = true) (hd : o.dst = some d) (xt : TypeId) (x : Operand) (ho : o.op = .unOp .not xt x) {a : Bool} (hx : evA n T x = .t (.v (.bool a))) (k' : AL P ops Q rest n (pu T d (.t (.v (.bool (!a))))) heap) : AL P ops Q (o :: rest) n T heap := by
  refine AL.val hw hd (fun en ac w ρ Z Y hR => ?_) k'
  have e1 := cvA_open (u := .bool a) (by rw [hx]; rfl) (hR.eval x)
  refine ⟨.bool (!a), val_of (s := Op.unary .not (ac.eval x)) (by unfold execOp; rw [ho]) ?_, .t (.v rfl)⟩
  rw [e1]; simp [Op.unary]
theorem A_neg (hw : wantedA n T ops o = true) (hd : o.dst = some d) (xt : TypeId) (x : Operand) (ho : o.op = .unOp .neg xt x) {k : IntKind} {a : Int} (hx : evA n T x = .t (.v (.int k a))) {c : Int} (hc : k.wrap (0 - a) = c) (k' : AL P ops Q rest n (pu T d (.t (.v (.int k c)))) heap) : AL P ops Q (o :: rest) n T heap := by
  subst hc
  refine AL.val hw hd (fun en ac w ρ Z Y hR => ?_) k'
  have e1 := cvA_open (u := .int k a) (by rw [hx]; rfl) (hR.eval x)
  refine ⟨_, val_of (s := Op.unary .neg (ac.eval x)) (by unfold execOp; rw [ho]) ?_, .t (.v rfl)⟩
  rw [e1]; simp [Op.unary, Op.intArith]
theorem A_conv (hw : wantedA n T ops o = true) (hd : o.dst = some d) (s t : TypeId) (x : Operand) (ho : o.op = .convert s t x) {ds : TypeDesc} (hs : P.underlying s = some ds) {kd : IntKind} (ht : P.underlying t = some (.int kd)) {k : IntKind} {a : Int} (hx : evA n T x = .t (.v (.int k a))) {c : Int} (hc : kd.wrap a = c)
    (k' : AL P ops Q rest n (pu T d (.t (.v (.int kd c)))) heap) : AL P ops Q (o :: rest) n T heap := by
  subst hc
  refine AL.val hw hd (fun en ac w ρ Z Y hR => ?_) k'
  have e1 := cvA_open (u := .int k a) (by rw [hx]; rfl) (hR.eval x)
  refine ⟨.int kd (kd.wrap a), val_of (s := convert s t (ac.eval x)) (by unfold execOp; rw [ho]) ?_, .t (.v rfl)⟩
  rw [e1]; simp [convert, run_underlying hs, run_underlying ht, Result.andThen, Conv.intToInt]
theorem A_max (hw : wantedA n T ops o = true) (hd : o.dst = some d) (tys : Array TypeId) (x y : Operand) (ho : o.op = .call { callee := .builtin .max, args := #[x, y], argTypes := tys }) {k k2 : IntKind} {a b : Int} (hx : evA n T x = .t (.v (.int k a))) (hy : evA n T y = .t (.v (.int k2 b)))
    (k' : AL P ops Q rest n (pu T d (.t (.v (.int k (max a b))))) heap) : AL P ops Q (o :: rest) n T heap := by
  refine AL.val hw hd (fun en ac w ρ Z Y hR => ?_) k'
  have e1 := cvA_open (u := .int k a) (by rw [hx]; rfl) (hR.eval x)
  have e2 := cvA_open (u := .int k2 b) (by rw [hy]; rfl) (hR.eval y)
  refine ⟨.int k (max a b), ?_, .t (.v rfl)⟩
  unfold execOp
  simp only [ho, resolve, invoke, builtin, Sem.run_bind, Sem.run_pure, Result.andThen_ok, List.map_toArray, List.map_cons, List.map_nil, e1, e2]
  simp [Builtin.max_, Builtin.max2, Result.andThen]
  split <;> omega
theorem A_min (hw : wantedA n T ops o = true) (hd : o.dst = some d) (tys : Array TypeId) (x y : Operand) (ho : o.op = .call { callee := .builtin .min, args := #[x, y], argTypes := tys }) {k k2 : IntKind} {a b : Int} (hx : evA n T x = .t (.v (.int k a))) (hy : evA n T y = .t (.v (.int k2 b)))
    (k' : AL P ops Q rest n (pu T d (.t (.v (.int k (min a b))))) heap) : AL P ops Q (o :: rest) n T heap := by
  refine AL.val hw hd (fun en ac w ρ Z Y hR => ?_) k'
  have e1 := cvA_open (u := .int k a) (by rw [hx]; rfl) (hR.eval x)
  have e2 := cvA_open (u := .int k2 b) (by rw [hy]; rfl) (hR.eval y)
  refine ⟨.int k (min a b), ?_, .t (.v rfl)⟩
  unfold execOp
  simp only [ho, resolve, invoke, builtin, Sem.run_bind, Sem.run_pure, Result.andThen_ok, List.map_toArray, List.map_cons, List.map_nil, e1, e2]
  simp [Builtin.min_, Builtin.min2, Result.andThen]
  split <;> omega
theorem A_eqnil (hw : wantedA n T ops o = true) (hd : o.dst = some d) (t yt : TypeId) (x : Operand) {n' c' : Nat} (ho : o.op = .binOp .eql t x (.const (.slice none n' c')) yt) {e : TypeId} (ht : P.underlying t = some (.slice e)) {m : Nat} (hx : lenA (evA n T x) = some m)
    (k : ∀ b, (b = true → m = 0) → AL P ops Q rest n (pu T d (.t (.v (.bool b)))) heap) : AL P ops Q (o :: rest) n T heap := by
  rintro en a w ⟨ρ, Z, Y, hR⟩
  obtain ⟨sa, c, h1⟩ := lenA_open hx (hR.eval x)
  have hm : sa.isNone = true → m = 0 := fun h => by
    have hv := hR.eval x
    have hsa : sa = none := by cases sa <;> simp_all
    subst hsa
    rw [h1] at hv
    generalize evA n T x = y at hx hv
    generalize hq : Value.slice none m c = q at hv
    cases hv <;> simp [lenA] at hx
    · rename_i x h'
      cases x with
      | v => cases hx
      | lst els =>
        obtain ⟨a', c', s', xs, e1, h2, _, _⟩ := h'.open
        rw [← hq] at e1
        simp only [Value.slice.injEq] at e1
        obtain ⟨rfl, e2, rfl⟩ := e1
        rw [e2]; exact (h2.none rfl).1
    · omega
    · rename_i hr hz hn he
      simp only [Value.slice.injEq] at hq
      obtain ⟨rfl, rfl, rfl⟩ := hq
      exact (hr.none rfl).1
    · rename_i i k' hk hc h0
      simp only [Value.slice.injEq] at hq
      have := h0 hq.1.symm
      omega
    · rename_i hn hmx h0 ha
      simp only [Value.slice.injEq] at hq
      obtain ⟨rfl, rfl, rfl⟩ := hq
      exact (h0 rfl).1
  refine wpList_val (hR.wanted hw) (v := .bool sa.isNone) (w' := w) ?_ (k _ hm en _ _ ⟨ρ, Z, Y, ?_⟩)
  · refine val_of (s := do eqGuard .eql t x (.const (.slice none n' c')) (a.eval x) (a.eval (.const (.slice none n' c'))); binOp .eql t (a.eval x) (a.eval (.const (.slice none n' c')))) (by unfold execOp; rw [ho]) ?_
    rw [h1]
    show (do eqGuard .eql t x (.const (.slice none n' c')) (.slice sa m c) (.slice none n' c'); binOp .eql t (.slice sa m c) (.slice none n' c') : Sem Value).run P w = _
    simp only [Sem.run_bind, guard_slice, Result.andThen_ok]
    exact Lib.run_eql_slice_nil w t e sa m c n' c' ht
  · rw [hd]; exact hR.put d (.t (.v rfl))
end
end Go.Proofs.Ytmljglphegeilaa

namespace Go.Proofs.Ytmljglphegeilaa
set_option linter.unusedVariables false
set_option linter.unusedSimpArgs false
set_option linter.unnecessarySimpa false
open Go.RowKit
structure Dl where
  dst : Option Nat
  x : AV
  upd : List (Nat × Ob)
  acc : List Nat
def Dl.T (D : Dl) (T : Nat → AV) : Nat → AV := match D.dst with
  | some d => pu T d D.x
  | none => T
def setAll (h : List Ob) : List (Nat × Ob) → List Ob
  | [] => h
  | (i, o) :: l => setAll (h.set i o) l
def Dl.H (D : Dl) (h : List Ob) : List Ob := setAll h D.upd
def foldT : List Dl → (Nat → Bool) → (Nat → AV) → Nat → AV
  | [], _, T => T
  | D :: Ds, S, T => foldT Ds (fun k => S (k + 1)) (bif S 0 then D.T T else T)
def foldH : List Dl → (Nat → Bool) → List Ob → List Ob
  | [], _, h => h
  | D :: Ds, S, h => foldH Ds (fun k => S (k + 1)) (bif S 0 then D.H h else h)
theorem setAll_len : ∀ (l : List (Nat × Ob)) (h : List Ob), (setAll h l).length = h.length
  | [], h => rfl
  | (i, o) :: l, h => by rw [setAll, setAll_len l]; simp
theorem setAll_out : ∀ (l : List (Nat × Ob)) (h : List Ob) (i : Nat), i ∉ l.map (·.1) → (setAll h l)[i]? = h[i]?
  | [], h, i, _ => rfl
  | (j, o) :: l, h, i, hi => by
    simp only [List.map_cons, List.mem_cons, not_or] at hi
    rw [setAll, setAll_out l _ i hi.2, List.getElem?_set, if_neg (Ne.symm hi.1)]
theorem setAll_in : ∀ (l : List (Nat × Ob)) (h h' : List Ob) (i : Nat), h.length = h'.length → (i ∈ l.map (·.1) ∨ h[i]? = h'[i]?) → (setAll h l)[i]? = (setAll h' l)[i]?
  | [], h, h', i, _, hi => by simpa [setAll] using hi
  | (j, o) :: l, h, h', i, hl, hi => by
    rw [setAll, setAll]
    refine setAll_in l _ _ i (by simpa using hl) ?_
    by_cases e : i ∈ l.map (·.1)
    · exact .inl e
    · right
      rw [List.getElem?_set, List.getElem?_set, hl]
      split
      · rfl
      · rename_i hne
        rcases hi with hi | hi
        · simp only [List.map_cons, List.mem_cons] at hi
          rcases hi with hi | hi
          · exact absurd hi.symm hne
          · exact absurd hi e
        · exact hi
theorem beq_ne {t d : Nat} (h : t ≠ d) : Nat.beq t d = false := by
  cases hb : Nat.beq t d
  · rfl
  · exact absurd (Nat.eq_of_beq_eq_true hb) h
theorem Dl.T_out {D : Dl} {T : Nat → AV} {t : Nat} (h : D.dst ≠ some t) : D.T T t = T t := by
  cases hD : D.dst with
  | none => simp only [Dl.T, hD]
  | some d =>
    have hne : t ≠ d := fun e => h (by rw [hD, e])
    simp only [Dl.T, hD, pu, beq_ne hne, cond_false]
theorem Dl.T_in {D : Dl} {T : Nat → AV} {t : Nat} (h : D.dst = some t) : D.T T t = D.x := by
  simp only [Dl.T, h, pu, Nat.beq_refl, cond_true]
theorem foldT_same : ∀ (Ds : List Dl) (S S' : Nat → Bool) (T T' : Nat → AV) (t : Nat), T t = T' t → (∀ (j : Nat) (D : Dl), Ds[j]? = some D → D.dst = some t → S j = S' j) → foldT Ds S T t = foldT Ds S' T' t
  | [], S, S', T, T', t, h, _ => h
  | D :: Ds, S, S', T, T', t, h, hs => by
    rw [foldT, foldT]
    refine foldT_same Ds _ _ _ _ t ?_ (fun j D' hj hd => hs (j + 1) D' (by simpa using hj) hd)
    by_cases hd : D.dst = some t
    · rw [← hs 0 D rfl hd]
      cases S 0
      · exact h
      · simp only [cond_true]; rw [Dl.T_in hd, Dl.T_in hd]
    · cases S 0 <;> cases S' 0 <;> simp only [cond_true, cond_false]
      · exact h
      · rw [Dl.T_out hd]; exact h
      · rw [Dl.T_out hd]; exact h
      · rw [Dl.T_out hd, Dl.T_out hd]; exact h
theorem foldT_at : ∀ (Ds : List Dl) (S : Nat → Bool) (T : Nat → AV) (t k : Nat) (D : Dl), Ds[k]? = some D → D.dst = some t → S k = true → (∀ (j : Nat) (D' : Dl), k < j → Ds[j]? = some D' → S j = true → D'.dst ≠ some t) → foldT Ds S T t = D.x
  | [], S, T, t, k, D, h, _, _, _ => by simp at h
  | D0 :: Ds, S, T, t, 0, D, h, hd, hs, hl => by
    simp at h; subst h
    rw [foldT, hs, cond_true]
    have key : ∀ (Ds : List Dl) (S : Nat → Bool) (T : Nat → AV), (∀ (j : Nat) (D' : Dl), Ds[j]? = some D' → S j = true → D'.dst ≠ some t) → foldT Ds S T t = T t := by
      intro Ds
      induction Ds with
      | nil => intro S T _; rfl
      | cons D' Ds ih =>
        intro S T hl
        rw [foldT, ih _ _ fun j D'' hj hs => hl (j + 1) D'' (by simpa using hj) hs]
        cases hs0 : S 0
        · rfl
        · rw [cond_true]; exact Dl.T_out (hl 0 D' rfl hs0)
    rw [key _ _ _ fun j D' hj hs => hl (j + 1) D' (by omega) (by simpa using hj) hs]
    exact Dl.T_in hd
  | D0 :: Ds, S, T, t, k + 1, D, h, hd, hs, hl => by
    rw [foldT]
    exact foldT_at Ds _ _ t k D (by simpa using h) hd hs fun j D' hkj hj hs => hl (j + 1) D' (by omega) (by simpa using hj) hs
theorem foldH_len : ∀ (Ds : List Dl) (S : Nat → Bool) (h : List Ob), (foldH Ds S h).length = h.length
  | [], S, h => rfl
  | D :: Ds, S, h => by
    rw [foldH, foldH_len Ds]
    cases S 0
    · rfl
    · exact setAll_len _ _
theorem foldH_same : ∀ (Ds : List Dl) (S S' : Nat → Bool) (h h' : List Ob) (i : Nat), h.length = h'.length → h[i]? = h'[i]? → (∀ (j : Nat) (D : Dl), Ds[j]? = some D → i ∈ D.upd.map (·.1) → S j = S' j) → (foldH Ds S h)[i]? = (foldH Ds S' h')[i]?
  | [], S, S', h, h', i, _, hi, _ => hi
  | D :: Ds, S, S', h, h', i, hl, hi, hs => by
    rw [foldH, foldH]
    refine foldH_same Ds _ _ _ _ i ?_ ?_ (fun j D' hj hd => hs (j + 1) D' (by simpa using hj) hd)
    · cases S 0 <;> cases S' 0 <;> simp only [cond_true, cond_false, Dl.H, setAll_len] <;> exact hl
    · by_cases hd : i ∈ D.upd.map (·.1)
      · rw [← hs 0 D rfl hd]
        cases S 0
        · exact hi
        · exact setAll_in _ _ _ i hl (.inl hd)
      · cases S 0 <;> cases S' 0 <;> simp only [cond_true, cond_false, Dl.H]
        · exact hi
        · rw [setAll_out _ _ i hd]; exact hi
        · rw [setAll_out _ _ i hd]; exact hi
        · rw [setAll_out _ _ i hd, setAll_out _ _ i hd]; exact hi
theorem foldH_at : ∀ (Ds : List Dl) (S : Nat → Bool) (h h' : List Ob) (i k : Nat) (D : Dl), Ds[k]? = some D → i ∈ D.upd.map (·.1) → S k = true → h'.length = h.length → (∀ (j : Nat) (D' : Dl), k < j → Ds[j]? = some D' → S j = true → i ∉ D'.upd.map (·.1)) → (foldH Ds S h)[i]? = (D.H h')[i]?
  | [], S, h, h', i, k, D, hk, _, _, _, _ => by simp at hk
  | D0 :: Ds, S, h, h', i, 0, D, hk, hd, hs, hh, hl => by
    simp at hk; subst hk
    rw [foldH, hs, cond_true]
    have key : ∀ (Ds : List Dl) (S : Nat → Bool) (h : List Ob), (∀ (j : Nat) (D' : Dl), Ds[j]? = some D' → S j = true → i ∉ D'.upd.map (·.1)) → (foldH Ds S h)[i]? = h[i]? := by
      intro Ds
      induction Ds with
      | nil => intro S h _; rfl
      | cons D' Ds ih =>
        intro S h hl
        rw [foldH, ih _ _ fun j D'' hj hs => hl (j + 1) D'' (by simpa using hj) hs]
        cases hs0 : S 0
        · rfl
        · rw [cond_true]; exact setAll_out _ _ i (hl 0 D' rfl hs0)
    rw [key _ _ _ fun j D' hj hs => hl (j + 1) D' (by omega) (by simpa using hj) hs]
    exact setAll_in _ _ _ i hh.symm (.inl hd)
  | D0 :: Ds, S, h, h', i, k + 1, D, hk, hd, hs, hh, hl => by
    rw [foldH]
    refine foldH_at Ds _ _ h' i k D (by simpa using hk) hd hs ?_ fun j D' hkj hj hs => hl (j + 1) D' (by omega) (by simpa using hj) hs
    rw [hh]
    cases S 0
    · rfl
    · exact (setAll_len _ _).symm

def StepA (P : Program) (ops : Array Oper) (n : Fr) (o : Oper) (D : Dl) (T : Nat → AV) (h : List Ob) : Prop :=
  ∀ T' h', (∀ t ∈ o.looksAt ops, T' t = T t) → (∀ i ∈ D.acc, h'[i]? = h[i]?) → h'.length = h.length → AL P ops (fun ex T'' h'' => ex = .normal ∧ T'' = D.T T' ∧ h'' = D.H h') [o] n T' h'
inductive RC (P : Program) (ops : Array Oper) (n : Fr) : List Oper → List Dl → (Nat → AV) → List Ob → (Nat → AV) → List Ob → Prop
  | nil {T : Nat → AV} {h : List Ob} : RC P ops n [] [] T h T h
  | cons {o : Oper} {rest : List Oper} {D : Dl} {Ds : List Dl} {T T1 T2 : Nat → AV} {h h1 h2 : List Ob} (hd : D.dst = o.dst) (hs : StepA P ops n o D T h) (hT : D.T T = T1) (hH : D.H h = h1) (k : RC P ops n rest Ds T1 h1 T2 h2) : RC P ops n (o :: rest) (D :: Ds) T h T2 h2
theorem RC.end_ {P : Program} {ops : Array Oper} {n : Fr} {l : List Oper} {Ds : List Dl} {T T2 : Nat → AV} {h h2 : List Ob} (hr : RC P ops n l Ds T h T2 h2) : foldT Ds (fun _ => true) T = T2 ∧ foldH Ds (fun _ => true) h = h2 := by
  induction hr with
  | nil => exact ⟨rfl, rfl⟩
  | cons hd hs hT hH k ih => subst hT hH; exact ih
def RG (P : Program) (ops : Array Oper) (n : Fr) (F : List Dl → (Nat → AV) → List Ob → Prop) (l : List Oper) (acc : List Dl) (T : Nat → AV) (h : List Ob) : Prop := ∃ Ds T2 h2, RC P ops n l Ds T h T2 h2 ∧ F (acc ++ Ds) T2 h2
theorem RG.nil {P : Program} {ops : Array Oper} {n : Fr} {F : List Dl → (Nat → AV) → List Ob → Prop} {acc : List Dl} {T : Nat → AV} {h : List Ob} (k : F acc T h) : RG P ops n F [] acc T h := ⟨[], T, h, .nil, by rw [List.append_nil]; exact k⟩
theorem RG.cons {P : Program} {ops : Array Oper} {n : Fr} {F : List Dl → (Nat → AV) → List Ob → Prop} {o : Oper} {rest : List Oper} {acc : List Dl} {D : Dl} {T T1 : Nat → AV} {h h1 : List Ob} (hd : D.dst = o.dst) (hs : StepA P ops n o D T h) (hT : D.T T = T1) (hH : D.H h = h1)
    (k : RG P ops n F rest (acc ++ [D]) T1 h1) : RG P ops n F (o :: rest) acc T h := by
  obtain ⟨Ds, T2, h2, h3, h4⟩ := k
  exact ⟨D :: Ds, T2, h2, .cons hd hs hT hH h3, by rw [List.append_assoc] at h4; exact h4⟩
def lt_ (k : Nat) : Nat → Bool := fun j => Nat.blt j k
theorem RC.get {P : Program} {ops : Array Oper} {n : Fr} {l : List Oper} {Ds : List Dl} {T T2 : Nat → AV} {h h2 : List Ob} (hr : RC P ops n l Ds T h T2 h2) : l.length = Ds.length ∧ ∀ (k : Nat) (o : Oper) (D : Dl), l[k]? = some o → Ds[k]? = some D → D.dst = o.dst ∧ StepA P ops n o D (foldT Ds (lt_ k) T) (foldH Ds (lt_ k) h) := by
  induction hr with
  | nil => exact ⟨rfl, fun k o D hk => by simp at hk⟩
  | @cons o rest D Ds T _ _ h _ _ hd hs hT hH k ih =>
    subst hT hH
    refine ⟨by simp [ih.1], fun k o' D' hk hD => ?_⟩
    cases k with
    | zero =>
      simp at hk hD; subst hk hD
      refine ⟨hd, ?_⟩
      have e1 : ∀ (Ds : List Dl) (S : Nat → Bool) (T : Nat → AV), (∀ j, S j = false) → foldT Ds S T = T := by
        intro Ds
        induction Ds with
        | nil => intro S T _; rfl
        | cons D Ds ih => intro S T hS; rw [foldT, hS 0, cond_false]; exact ih _ _ fun j => hS (j + 1)
      have e2 : ∀ (Ds : List Dl) (S : Nat → Bool) (h : List Ob), (∀ j, S j = false) → foldH Ds S h = h := by
        intro Ds
        induction Ds with
        | nil => intro S h _; rfl
        | cons D Ds ih => intro S h hS; rw [foldH, hS 0, cond_false]; exact ih _ _ fun j => hS (j + 1)
      have e0 : ∀ j, lt_ 0 j = false := fun j => rfl
      rw [e1 _ _ _ e0, e2 _ _ _ e0]
      exact hs
    | succ k =>
      have := ih.2 k o' D' (by simpa using hk) (by simpa using hD)
      rw [foldT, foldH]
      have e : (fun j => lt_ (k + 1) (j + 1)) = lt_ k := by
        funext j
        show Nat.blt (j + 1) (k + 1) = Nat.blt j k
        rfl
      rw [e]
      exact this
def lacks (l m : List Nat) : Bool := l.all fun x => !m.contains x
def apartD (ops : Array Oper) (x y : Oper) (ax wx ay wy : List Nat) : Bool := x.apart ops y && lacks wx ay && lacks wy ax
def chkD (l : List Oper) (A : List (List Nat)) (W : List (List Nat × List Nat)) : Bool :=
  (l.length == W.length) && (W.all fun w => w.2.all fun i => w.1.contains i) &&
  (l.zipIdx.all fun (o, j) => (directs o).all (· < j) && (A.getD j []).all fun i => (directs o).contains i || (directs o).any fun d => (A.getD d []).contains i) &&
  (l.zipIdx.all fun (o, j) => (l.zipIdx.take j).all fun (p, i) => (A.getD j []).contains i || apartD l.toArray p o (W.getD i ([], [])).1 (W.getD i ([], [])).2 (W.getD j ([], [])).1 (W.getD j ([], [])).2)
theorem ancs_listed {l : List Oper} {A : List (List Nat)} (hA : ∀ (j : Nat) (o : Oper), l[j]? = some o → (∀ d ∈ directs o, d < j) ∧ ∀ i ∈ A.getD j [], i ∈ directs o ∨ ∃ d ∈ directs o, i ∈ A.getD d []) {L : Nat → Bool} (hL : ∀ (i : Nat) (o : Oper), l[i]? = some o → L i = true → ∀ j ∈ directs o, L j = true) :
    ∀ (j : Nat) (o : Oper), l[j]? = some o → L j = true → ∀ i ∈ A.getD j [], L i = true := by
  intro j
  induction j using Nat.strongRecOn with
  | _ j ih =>
    intro o ho hj i hi
    obtain ⟨h1, h2⟩ := hA j o ho
    rcases h2 i hi with h | ⟨d, hd, hid⟩
    · exact hL j o ho hj i h
    · have hdj := h1 d hd
      exact ih d hdj _ (List.getElem?_eq_getElem (by have := get_lt ho; omega)) (hL j o ho hj d hd) i hid
theorem wp_any {P : Program} {o : Oper} {a : Act} {w : World} {G K : Act → World → Prop} {F Q : Exit → Act → World → Prop} (hF : ∀ ex a w, F ex a w → ex = .normal) (hk : ∀ a w, G a w → K a w) (h : o.wp P a w G F) : o.wp P a w K Q := by
  unfold Oper.wp at *
  generalize (execOp a.eval o).run P w = r at *
  cases r with
  | halt h' w' => cases h' <;> first | exact h.elim | exact absurd (hF _ _ _ h) (by simp)
  | ok n w' =>
    match n, h with
    | .value v, h => exact hk _ _ h
    | .skip, h => exact hk _ _ h
    | .defer x, h => exact hk _ _ h
    | .enter f args, h =>
      refine Calls.mono h ?_
      intro e w'' he
      cases e with
      | returned v => exact hk _ _ he
      | panicked c => exact absurd (hF _ _ _ he) (by simp)
      | outgrown => obtain ⟨_, _, hf⟩ := he; exact absurd (hF _ _ _ hf) (by simp)
    | .row r' args, h => exact Rows.mono h fun v w'' hv => hk _ _ hv
section
variable {P : Program} {Q : QS} {n : Fr} {T : Nat → AV} {heap : List Ob}
theorem dir_of {o : Oper} {j : Nat} (h : j ∈ directs o) : ∃ e ∈ o.after, Region.binds .any e = true ∧ e.on = j := by
  unfold directs at h
  obtain ⟨e, he, rfl⟩ := List.mem_map.1 h
  obtain ⟨h1, h2⟩ := List.mem_filter.1 he
  exact ⟨e, by simpa using h1, h2, rfl⟩
theorem of_dir {o : Oper} {e : Edge} (h : e ∈ o.after) (hb : Region.binds .any e = true) : e.on ∈ directs o :=
  List.mem_map.2 ⟨e, List.mem_filter.2 ⟨by simpa using h, hb⟩, rfl⟩
theorem lt_self (i : Nat) : lt_ i i = false := by
  unfold lt_
  cases hb : Nat.blt i i with
  | false => rfl
  | true => have := Nat.le_of_ble_eq_true hb; omega
theorem lacks_spec {l m : List Nat} (h : lacks l m = true) {x : Nat} (hx : x ∈ l) : x ∉ m := by
  unfold lacks at h
  have := List.all_eq_true.1 h x hx
  simpa using this
def W_ (Ds : List Dl) : List (List Nat × List Nat) := Ds.map fun D => (D.acc, D.upd.map (·.1))
theorem draw_any {l : List Oper} {Ds : List Dl} {T2 : Nat → AV} {h2 : List Ob} (hr : RC P l.toArray n l Ds T heap T2 h2) (A : List (List Nat)) (hc : chkD l A (W_ Ds) = true) (k : Q .normal T2 h2) :
    ∀ e a w, Rep e ⟨n, T, heap⟩ a w → wpAny P .any l.toArray (lift e n Q) l.toArray.size (Array.replicate l.toArray.size false) a w.drew := by
  rw [← hr.end_.1, ← hr.end_.2] at k
  obtain ⟨hlen, hst⟩ := hr.get
  simp only [chkD, Bool.and_eq_true] at hc
  obtain ⟨⟨⟨_, c1⟩, c2⟩, c3⟩ := hc
  have hW : ∀ (j : Nat) (D : Dl), Ds[j]? = some D → (W_ Ds).getD j ([], []) = (D.acc, D.upd.map (·.1)) := fun j D hj => by
    simp only [W_, List.getD_eq_getElem?_getD, List.getElem?_map, hj, Option.map_some, Option.getD_some]
  have hsub : ∀ (j : Nat) (D : Dl), Ds[j]? = some D → ∀ i ∈ D.upd.map (·.1), i ∈ D.acc := fun j D hj i hi => by
    have h1 := List.all_eq_true.1 c1 (D.acc, D.upd.map (·.1)) (List.mem_map.2 ⟨D, List.mem_of_getElem? hj, rfl⟩)
    have h2 := List.all_eq_true.1 h1 i hi
    simpa using h2
  have zip : ∀ (j : Nat) (o : Oper), l[j]? = some o → (o, j) ∈ l.zipIdx := fun j o hj => List.mem_zipIdx_iff_getElem?.2 hj
  have hA : ∀ (j : Nat) (o : Oper), l[j]? = some o → (∀ d ∈ directs o, d < j) ∧ ∀ i ∈ A.getD j [], i ∈ directs o ∨ ∃ d ∈ directs o, i ∈ A.getD d [] := fun j o hj => by
    have h1 := List.all_eq_true.1 c2 _ (zip j o hj)
    simp only [Bool.and_eq_true] at h1
    refine ⟨fun d hd => ?_, fun i hi => ?_⟩
    · simpa using List.all_eq_true.1 h1.1 d hd
    · have h2 := List.all_eq_true.1 h1.2 i hi
      simp only [Bool.or_eq_true, List.any_eq_true, List.contains_iff_mem] at h2
      exact h2
  have hP : ∀ (i j : Nat) (p o : Oper), i < j → l[i]? = some p → l[j]? = some o → i ∈ A.getD j [] ∨ apartD l.toArray p o ((W_ Ds).getD i ([], [])).1 ((W_ Ds).getD i ([], [])).2 ((W_ Ds).getD j ([], [])).1 ((W_ Ds).getD j ([], [])).2 = true := fun i j p o hij hi hj => by
    have h1 := List.all_eq_true.1 c3 _ (zip j o hj)
    have h2 := List.all_eq_true.1 h1 (p, i) (by
      refine List.mem_of_getElem? (i := i) ?_
      rw [List.getElem?_take, if_pos hij, List.getElem?_zipIdx, hi]; simp)
    simp only [Bool.or_eq_true, List.contains_iff_mem] at h2
    exact h2
  intro e a w hR
  have hR' : Rep e ⟨n, T, heap⟩ a w.drew := by
    obtain ⟨ρ, Z, Y, h⟩ := hR
    refine ⟨ρ, Z, Y, ⟨?_, h.defers, h.n, h.hl, fun t v ht => ?_⟩⟩
    · refine Ok.mono h.ok ?_ (fun j k hj => ⟨hj, rfl⟩) ⟨rfl, rfl, rfl⟩ (Nat.le_refl _) h.ok.dom (fun _ h => h) (fun _ h => h) (fun b hb => .inl hb) (fun b _ _ => rfl)
      exact ⟨fun i o hi => Ob.holds_mono (w := w) (w' := w.drew) (fun x v hv => Val.mono (w := w) (w' := w.drew) (fun i k hk => ⟨hk, rfl⟩) (fun b hb => ⟨hb, rfl⟩) (fun b hb => ⟨hb, rfl⟩) hv) (fun _ _ => rfl) (fun b hb => ⟨hb, rfl⟩) (fun _ _ => rfl) (h.ok.rep.obs i o hi), h.ok.rep.apart, h.ok.rep.own, h.ok.rep.zy, h.ok.rep.ylt⟩
    · exact Val.mono (w := w) (w' := w.drew) (fun i k hk => ⟨hk, rfl⟩) (fun b hb => ⟨hb, rfl⟩) (fun b hb => ⟨hb, rfl⟩) (h.at_ t v ht)
  have main : ∀ (fuel : Nat) (listed : Array Bool) (a : Act) (w : World), listed.size = l.length → (∀ (i : Nat) (o : Oper), l[i]? = some o → listed.getD i false = true → ∀ j ∈ directs o, listed.getD j false = true) →
      (List.range l.length).countP (fun j => !listed.getD j false) ≤ fuel → Rep e ⟨n, foldT Ds (fun j => listed.getD j false) T, foldH Ds (fun j => listed.getD j false) heap⟩ a w → wpAny P .any l.toArray (lift e n Q) fuel listed a w := by
    have done : ∀ (listed : Array Bool) (a : Act) (w : World), listed.size = l.length → (∀ j, j < l.length → listed.getD j false = true) → Rep e ⟨n, foldT Ds (fun j => listed.getD j false) T, foldH Ds (fun j => listed.getD j false) heap⟩ a w → lift e n Q .normal a w := by
      intro listed a w hs hall hR
      have e1 : foldT Ds (fun j => listed.getD j false) T = foldT Ds (fun _ => true) T := funext fun t => foldT_same Ds _ _ _ _ t rfl fun j D hj _ => hall j (by have := get_lt hj; omega)
      have e2 : foldH Ds (fun j => listed.getD j false) heap = foldH Ds (fun _ => true) heap := List.ext_getElem? fun i => foldH_same Ds _ _ _ _ i rfl rfl fun j D hj _ => hall j (by have := get_lt hj; omega)
      rw [e1, e2] at hR
      exact ⟨_, _, k, hR⟩
    intro fuel
    induction fuel with
    | zero =>
      intro listed a w hs hdc hcnt hR
      have hall : ∀ j, j < l.length → listed.getD j false = true := fun j hj => by
        have h0 : (List.range l.length).countP (fun j => !listed.getD j false) = 0 := by omega
        have := List.countP_eq_zero.1 h0 j (List.mem_range.2 hj)
        simpa using this
      exact ⟨ready_none hs hall, done listed a w hs hall hR⟩
    | succ fuel ih =>
      intro listed a w hs hdc hcnt hR
      refine ⟨fun hrd => ?_, fun i hi => ?_⟩
      · refine done listed a w hs (fun j hj => ?_) hR
        cases hb : listed.getD j false with
        | true => rfl
        | false =>
          -- the first that is not listed is ready
          have ex : ∃ q, q < l.length ∧ listed.getD q false = false ∧ ∀ r, r < q → listed.getD r false = true := by
            have key : ∀ m, (∃ q, q < m ∧ q < l.length ∧ listed.getD q false = false) → ∃ q, q < l.length ∧ listed.getD q false = false ∧ ∀ r, r < q → listed.getD r false = true := by
              intro m
              induction m with
              | zero => rintro ⟨q, h, _⟩; omega
              | succ m ihm =>
                rintro ⟨q, h1, h2, h3⟩
                by_cases hlow : ∃ q, q < m ∧ q < l.length ∧ listed.getD q false = false
                · exact ihm hlow
                · refine ⟨q, h2, h3, fun r hr => ?_⟩
                  cases hb' : listed.getD r false with
                  | true => rfl
                  | false => exact absurd ⟨r, by omega, by omega, hb'⟩ hlow
            exact key l.length ⟨j, hj, hj, hb⟩
          obtain ⟨q, q1, q2, q3⟩ := ex
          have hq := List.getElem?_eq_getElem q1
          have : q ∈ Region.ready .any l.toArray listed := mem_ready.2 ⟨by rw [listed_get hs q1]; exact q2, l[q], by simp, fun d hd hb => q3 d.on ((hA q _ hq).1 d.on (of_dir hd hb))⟩
          rw [hrd] at this
          simp at this
      · obtain ⟨h0, o, ho, hdir⟩ := mem_ready.1 hi
        have ho' : l[i]? = some o := by simpa using ho
        have hil := get_lt ho'
        rw [listed_get hs hil] at h0
        have hD := List.getElem?_eq_getElem (l := Ds) (i := i) (by omega)
        obtain ⟨hdst, hstep⟩ := hst i o _ ho' hD
        generalize Ds[i] = D at *
        let S : Nat → Bool := fun j => listed.getD j false
        let S' : Nat → Bool := fun j => (listed.setIfInBounds i true).getD j false
        have hS' : ∀ j, S' j = if j = i then true else S j := fun j => by
          show (listed.setIfInBounds i true).getD j false = _
          rw [set_get hs hil]; rfl
        have hS'dc : ∀ (q : Nat) (p : Oper), l[q]? = some p → S' q = true → ∀ j ∈ directs p, S' j = true := fun q p hq hS j hj => by
          rw [hS'] at hS ⊢
          split
          · rfl
          · split at hS
            · rename_i e1; subst e1
              rw [ho'] at hq; cases hq
              obtain ⟨ed, h1, h2, rfl⟩ := dir_of hj
              exact hdir ed h1 h2
            · exact hdc q p hq hS j hj
        -- those of another side of i touch nothing of it
        have far : ∀ (j : Nat) (D' : Dl), Ds[j]? = some D' → j ≠ i → S j ≠ lt_ i j → (∀ d, D'.dst = some d → d ∉ o.looksAt l.toArray ∧ D.dst ≠ some d) ∧ (∀ q ∈ D'.upd.map (·.1), q ∉ D.acc) := by
          intro j D' hj hne hSj
          have hjl : j < l.length := by have := get_lt hj; omega
          have hjo := List.getElem?_eq_getElem hjl
          obtain ⟨hdst', _⟩ := hst j _ D' hjo hj
          rcases Nat.lt_or_gt_of_ne hne with hlt | hgt
          · have hSf : S j = false := by
              have : lt_ i j = true := Nat.ble_eq_true_of_le hlt
              rw [this] at hSj; simpa using hSj
            rcases hP j i _ o hlt hjo ho' with hin | hap
            · have := ancs_listed hA hS'dc i o ho' (by rw [hS', if_pos rfl]) j hin
              rw [hS', if_neg hne] at this
              rw [hSf] at this; cases this
            · rw [hW j D' hj, hW i D hD] at hap
              simp only [apartD, Bool.and_eq_true] at hap
              obtain ⟨⟨hap, hw1⟩, hw2⟩ := hap
              have sp := Oper.apart_spec hap
              exact ⟨fun d hd => ⟨sp.1 d (by rw [← hdst']; exact hd), fun hd' => sp.2.1 d (by rw [← hdst']; exact hd) (by rw [← hdst]; exact hd')⟩, fun q hq => lacks_spec hw1 hq⟩
          · have hSt : S j = true := by
              have : lt_ i j = false := by
                cases hb : lt_ i j with
                | false => rfl
                | true => have := Nat.le_of_ble_eq_true hb; omega
              rw [this] at hSj; simpa using hSj
            rcases hP i j o _ hgt ho' hjo with hin | hap
            · have := ancs_listed hA hdc j _ hjo hSt i hin
              rw [h0] at this; cases this
            · rw [hW j D' hj, hW i D hD] at hap
              simp only [apartD, Bool.and_eq_true] at hap
              obtain ⟨⟨hap, hw1⟩, hw2⟩ := hap
              have sp := Oper.apart_spec hap
              exact ⟨fun d hd => ⟨sp.2.2 d (by rw [← hdst']; exact hd), fun hd' => sp.2.1 d (by rw [← hdst]; exact hd') (by rw [← hdst']; exact hd)⟩, fun q hq => lacks_spec hw2 hq⟩
        have hl' := hstep (foldT Ds S T) (foldH Ds S heap) (fun t ht => ?_) (fun q hq => ?_) (by rw [foldH_len, foldH_len])
        · have hlw := hl' e a w hR
          unfold wpList at hlw
          unfold wpOp
          rw [ho]
          simp only
          have fin : ∀ a' w', wpList P l.toArray (lift e n fun ex T'' h'' => ex = .normal ∧ T'' = D.T (foldT Ds S T) ∧ h'' = D.H (foldH Ds S heap)) [] a' w' → wpAny P .any l.toArray (lift e n Q) fuel (listed.setIfInBounds i true) a' w' := by
            intro a' w' hf
            obtain ⟨T'', h'', ⟨_, rfl, rfl⟩, hR''⟩ := hf
            refine ih (listed.setIfInBounds i true) a' w' (by simpa using hs) hS'dc ?_ ?_
            · have := cnt_upd (fun j => !listed.getD j false) (fun j => !(listed.setIfInBounds i true).getD j false) i (by simp [h0]) (by rw [set_get hs hil]; simp [upd]) (fun j hj => by rw [set_get hs hil]; simp [upd, hj]) l.length hil
              omega
            · have e1 : foldT Ds S' T = D.T (foldT Ds S T) := funext fun t => by
                by_cases hd : D.dst = some t
                · rw [Dl.T_in hd]
                  refine foldT_at Ds S' T t i D hD hd (by rw [hS', if_pos rfl]) fun j D' hij hj hSj hd' => ?_
                  rw [hS', if_neg (by omega)] at hSj
                  exact ((far j D' hj (by omega) (by
                    have : lt_ i j = false := by
                      cases hb : lt_ i j with
                      | false => rfl
                      | true => have := Nat.le_of_ble_eq_true hb; omega
                    rw [hSj, this]; simp)).1 t hd').2 hd
                · rw [Dl.T_out hd]
                  refine foldT_same Ds S' S T T t rfl fun j D' hj hd' => ?_
                  rw [hS', if_neg fun e => hd (by subst e; rw [hD] at hj; cases hj; exact hd')]
              have e2 : foldH Ds S' heap = D.H (foldH Ds S heap) := List.ext_getElem? fun q => by
                by_cases hd : q ∈ D.upd.map (·.1)
                · refine foldH_at Ds S' heap _ q i D hD hd (by rw [hS', if_pos rfl]) (foldH_len _ _ _) fun j D' hij hj hSj hd' => ?_
                  rw [hS', if_neg (by omega)] at hSj
                  exact (far j D' hj (by omega) (by
                    have : lt_ i j = false := by
                      cases hb : lt_ i j with
                      | false => rfl
                      | true => have := Nat.le_of_ble_eq_true hb; omega
                    rw [hSj, this]; simp)).2 q hd' (hsub i D hD q hd)
                · rw [show D.H (foldH Ds S heap) = setAll (foldH Ds S heap) D.upd from rfl, setAll_out _ _ q hd]
                  refine foldH_same Ds S' S heap heap q rfl rfl fun j D' hj hd' => ?_
                  rw [hS', if_neg fun e => hd (by subst e; rw [hD] at hj; cases hj; exact hd')]
              have e1' : foldT Ds (fun j => (listed.setIfInBounds i true).getD j false) T = D.T (foldT Ds S T) := e1
              have e2' : foldH Ds (fun j => (listed.setIfInBounds i true).getD j false) heap = D.H (foldH Ds S heap) := e2
              rw [e1', e2']
              exact hR''
          split at hlw
          · rename_i hwt
            rw [if_pos hwt]
            rcases hlw with hlw | ⟨_, hlw⟩
            · exact .inl (wp_any (fun ex a w ⟨_, _, hq, _⟩ => hq.1) fin hlw)
            · obtain ⟨_, _, _, _, hq, _⟩ := hlw
              exact absurd hq.1 (by simp)
          · rename_i hwt
            rw [if_neg hwt]
            exact fin _ _ hlw
        · refine foldT_same Ds S (lt_ i) T T t rfl fun j D' hj hd' => ?_
          by_cases hji : j = i
          · subst hji
            show listed.getD j false = _
            rw [h0, lt_self]
          · by_cases hS : S j = lt_ i j
            · exact hS
            · exact absurd ht ((far j D' hj hji hS).1 t hd').1
        · refine foldH_same Ds S (lt_ i) heap heap q rfl rfl fun j D' hj hd' => ?_
          by_cases hji : j = i
          · subst hji
            show listed.getD j false = _
            rw [h0, lt_self]
          · by_cases hS : S j = lt_ i j
            · exact hS
            · exact absurd hq ((far j D' hj hji hS).2 q hd')
  have z : ∀ j, (Array.replicate l.toArray.size false).getD j false = false := fun j => by
    simp [Array.getD_eq_getD_getElem?, Array.getElem?_replicate]; split <;> rfl
  refine main _ _ _ _ (by simp) (fun i o _ hl => by rw [z] at hl; simp at hl) ?_ ?_
  · have h1 : (List.range l.length).countP (fun j => !(Array.replicate l.toArray.size false).getD j false) ≤ (List.range l.length).length := List.countP_le_length
    simp at h1 ⊢
    omega
  · have e1 : foldT Ds (fun j => (Array.replicate l.toArray.size false).getD j false) T = T := by
      have : ∀ (Ds : List Dl) (S : Nat → Bool) (T : Nat → AV), (∀ j, S j = false) → foldT Ds S T = T := by
        intro Ds
        induction Ds with
        | nil => intro S T _; rfl
        | cons D Ds ih => intro S T hS; rw [foldT, hS 0, cond_false]; exact ih _ _ fun j => hS (j + 1)
      exact this _ _ _ z
    have e2 : foldH Ds (fun j => (Array.replicate l.toArray.size false).getD j false) heap = heap := by
      have : ∀ (Ds : List Dl) (S : Nat → Bool) (h : List Ob), (∀ j, S j = false) → foldH Ds S h = h := by
        intro Ds
        induction Ds with
        | nil => intro S h _; rfl
        | cons D Ds ih => intro S h hS; rw [foldH, hS 0, cond_false]; exact ih _ _ fun j => hS (j + 1)
      exact this _ _ _ z
    rw [e1, e2]
    exact hR'
theorem AW.draw0 {id : Nat} {l : List Oper} (hm : P.follows .mixedOrders = true) {Ds : List Dl} {T2 : Nat → AV} {h2 : List Ob} (hr : RC P l.toArray n l Ds T heap T2 h2) (A : List (List Nat)) (hc : chkD l A (W_ Ds) = true) (k : Q .normal T2 h2) :
    AW P (.region id l.toArray true) Q n T heap := fun e a w hR => wp_region_any hm (draw_any hr A hc k e a w hR)
theorem Wk.holes (m : Nat) {heap' : List Ob} (hh : heap ++ List.replicate m .hole = heap') : Wk n T heap T heap' := by
  subst hh
  rintro e a w ⟨ρ, Z, Y, hR⟩
  have hat : AtL heap heap.length (List.replicate m .hole) (heap ++ List.replicate m .hole) := .push rfl rfl
  have hole : ∀ (q : Nat) (o : Ob), (List.replicate m Ob.hole)[q]? = some o → o = .hole := fun q o hq => by
    have := List.mem_of_getElem? hq
    exact (List.mem_replicate.1 this).2
  refine ⟨ρ, Z, Y, hR.move (hR.ok.push hat (fun _ _ _ => rfl) ⟨rfl, rfl, rfl⟩ (Nat.le_refl _) (fun _ _ => rfl) (fun _ h => h) (fun _ h => h) hR.ok.rep.zy (fun b hb => .inl hb) (fun b hb => .inl hb) (fun q o hq => ?_) (fun q r o o' b hq _ hb _ => ?_) (fun q o b hq hb => ?_)) (fun x v hv => hv.mono (fun i k hk => ⟨(hat.kn hk).1, rfl⟩) (fun b hb => ⟨hb, rfl⟩) (fun b hb => ⟨hb, rfl⟩))⟩
  · rw [hole q o hq]; trivial
  · rw [hole q o hq] at hb; cases hb
  · rw [hole q o hq] at hb; cases hb
theorem AW.draw {id : Nat} {l : List Oper} (hm : P.follows .mixedOrders = true) (m : Nat) {heap1 : List Ob} (hh : heap ++ List.replicate m .hole = heap1) {Ds : List Dl} {T2 : Nat → AV} {h2 : List Ob} (hr : RC P l.toArray n l Ds T heap1 T2 h2) (A : List (List Nat)) (hc : chkD l A (W_ Ds) = true) (k : Q .normal T2 h2) : AW P (.region id l.toArray true) Q n T heap :=
  AW.wk (Wk.holes m hh) (AW.draw0 hm hr A hc k)
end
end Go.Proofs.Ytmljglphegeilaa


namespace Go.Proofs.Ytmljglphegeilaa
set_option linter.unusedVariables false
set_option linter.unusedSimpArgs false
set_option linter.unnecessarySimpa false
open Go.RowKit
def litA (size : Nat) : Nat → List (Nat × List AV) → Option (List (List Tr))
  | _, [] => some []
  | k, (i, cs) :: r => match trsA cs, litA size (k + 1) r with
    | some ts, some m => bif Nat.beq i k && Nat.beq ts.length size then some (ts :: m) else none
    | _, _ => none
theorem fill_lit {size : Nat} : ∀ (ps : List (Nat × Value)) (vss : List (List Value)) (k : Nat) (cells : List Value), ps.length = vss.length → (∀ (j : Nat) i v vs, ps[j]? = some (i, v) → vss[j]? = some vs → i = k + j ∧ v.cells = vs.toArray ∧ vs.length = size) → cells.length = (k + vss.length) * size →
    Instr.fill (fun i => some (i * size, size)) cells.toArray ps = some (cells.take (k * size) ++ vss.flatten).toArray
  | [], [], k, cells, _, _, hc => by
    simp only [List.length_nil, Nat.add_zero] at hc
    simp [Instr.fill, ← hc]
  | [], _ :: _, _, _, h, _, _ => by simp at h
  | _ :: _, [], _, _, h, _, _ => by simp at h
  | (i, v) :: ps, vs :: vss, k, cells, hl, hp, hc => by
    obtain ⟨e1, e2, e3⟩ := hp 0 i v vs rfl rfl
    have e1 : i = k := by omega
    subst e1
    simp only [List.length_cons] at hc
    have hle : i * size + size ≤ cells.length := by
      rw [hc, ← Nat.succ_mul]
      exact Nat.mul_le_mul_right _ (by omega)
    unfold Instr.fill
    simp only [e2, List.size_toArray, e3]
    rw [if_neg (by simp; omega)]
    have hf := fold_set vs 0 (i * size) cells.toArray (by simp; omega)
    have ee : vs.toArray.zipIdx.foldl (fun cs (x : Value × Nat) => cs.setIfInBounds (i * size + x.2) x.1) cells.toArray = (cells.take (i * size) ++ vs ++ cells.drop (i * size + size)).toArray := by
      apply Array.toList_inj.1
      rw [← Array.foldl_toList, Array.toList_zipIdx]
      simpa [e3] using hf
    have ih := fill_lit ps vss (i + 1) (cells.take (i * size) ++ vs ++ cells.drop (i * size + size)) (by simpa using hl) (fun j i' v' vs' h1 h2 => by
      obtain ⟨a, b, c⟩ := hp (j + 1) i' v' vs' (by simpa using h1) (by simpa using h2)
      exact ⟨by omega, b, c⟩) (by
      simp only [List.length_append, List.length_take, List.length_drop, e3]
      rw [show (i + 1 + vss.length) * size = (i + (vss.length + 1)) * size by congr 1; omega, ← hc]
      omega)
    have h5 : (cells.take (i * size) ++ vs ++ cells.drop (i * size + size)).take ((i + 1) * size) = cells.take (i * size) ++ vs := by
      rw [Nat.succ_mul]
      refine List.take_left' ?_
      rw [List.length_append, List.length_take, e3]; omega
    rw [h5] at ih
    rw [List.flatten_cons, ← List.append_assoc, ← ih]
    exact congrArg (fun c => Instr.fill (fun i => some (i * size, size)) c ps) ee
theorem lit_open {e : Env} {n : Fr} {T : Nat → AV} {heap : List Ob} {a : Act} {w : World} {ρ : Rho} {Z Y : Nat → Prop} (hR : Rp e ⟨n, T, heap⟩ a w ρ Z Y) {size : Nat} {ps : List (Nat × Operand)} {qs : List (Nat × List AV)} (hp : Parts n T ps qs) :
    ∀ {k : Nat} {els : List (List Tr)}, litA size k qs = some els → ∃ vss : List (List Value), vss.length = els.length ∧ ps.length = vss.length ∧ (∀ (j : Nat) i v vs, (ps.map (fun x => (x.1, a.eval x.2)))[j]? = some (i, v) → vss[j]? = some vs → i = k + j ∧ v.cells = vs.toArray ∧ vs.length = size) ∧ Elems (Frz w Z) size els vss.flatten := by
  induction hp with
  | nil => intro k els h; cases h; exact ⟨[], rfl, rfl, fun j i v vs h => by simp at h, .nil⟩
  | @cons i x cs ps qs h k ih =>
    intro kk els hl
    unfold litA at hl
    split at hl
    · rename_i ts m h1 h2
      cases hb : (Nat.beq i kk && Nat.beq ts.length size) with
      | false => rw [hb] at hl; cases hl
      | true =>
        rw [hb] at hl
        cases hl
        rw [Bool.and_eq_true] at hb
        have b1 := Nat.eq_of_beq_eq_true hb.1
        have b2 := Nat.eq_of_beq_eq_true hb.2
        subst b1
        obtain ⟨ws, g1, g2, g3⟩ := (hR.eval x).flat h
        obtain ⟨q1, q2⟩ := trsA_open h1 g2
        obtain ⟨vss, v1, v2, v3, v4⟩ := ih h2
        refine ⟨ws :: vss, by simp [v1], by simp [v2], fun j i' v vs hj hv => ?_, ?_⟩
        · cases j with
          | zero => simp at hj hv; obtain ⟨rfl, rfl⟩ := hj; subst hv; exact ⟨rfl, g1, by omega⟩
          | succ j =>
            obtain ⟨a1, a2, a3⟩ := v3 j i' v vs (by simpa using hj) (by simpa using hv)
            exact ⟨by omega, a2, a3⟩
        · rw [List.flatten_cons]
          have h6 : Elems (Frz w Z) size [ts] ws := ⟨by simp; omega, fun c hc => by simp at hc; rw [hc]; exact b2, fun i' c j y u hi hj hu => by
            cases i' with
            | zero => simp at hi; subst hi; exact q2 j y u hj (by simpa using hu)
            | succ i' => simp at hi⟩
          exact h6.append v4
    · cases hl
section
variable {P : Program} {ops : Array Oper} {Q : QS} {rest : List Oper} {o : Oper} {n : Fr} {T : Nat → AV} {heap : List Ob} {d : Nat}
theorem A_lit0 (hw : wantedA n T ops o = true) (hd : o.dst = some d) (t : TypeId) (ho : o.op = .buildSlice t 0 #[]) {e : TypeId} (ht : P.underlying t = some (.slice e)) {z : Option Value} {size bytes : Nat} (hI : (P.info? e).map (fun i => (i.zero, i.size, i.bytes)) = some (z, size, bytes))
    (k : AL P ops Q rest n (pu T d .nl) heap) : AL P ops Q (o :: rest) n T heap := by
  refine AL.act hw hd (fun en a w ρ Z Y hR => ?_) k
  have hrep := hR.ok.rep
  have hsame : ∀ b, b < w.heap.size → (w.alloc (.cells #[] e)).heap[b]? = w.heap[b]? := fun b hb => Below.heap_alloc w _ b hb
  have hm : ∀ x v, Val (Kn heap) ρ w Z Y x v → Val (Kn heap) ρ (w.alloc (.cells #[] e)) Z Y x v := fun x v hv => hrep.val (fun j k hj => ⟨hj, rfl⟩) (fun _ h => h) (fun b hb => ⟨hb, hsame b (hrep.ylt b hb)⟩) hv
  refine ⟨.slice (some ⟨w.heap.size, 0, none⟩) 0 0, w.alloc (.cells #[] e), ρ, Z, Y, ?_, ?_, hm, .nl _⟩
  · refine val_of (s := Instr.buildSlice t 0 #[]) (by unfold execOp; rw [ho]; simp) ?_
    obtain ⟨inf, hin, _, hs, _⟩ := info_of hI
    simp [Instr.buildSlice, run_underlying ht, sizeOf, typeInfo, hin, Result.andThen, Instr.fill, newRow]
    exact congrArg (fun c => w.alloc (Obj.cells c e)) (Array.eq_empty_of_size_eq_zero (by simp))
  · have := hR.ok.push (N := heap.length) (L := []) (heap' := heap) (w' := w.alloc (.cells #[] e)) (ρ' := ρ) (Z' := Z) (Y' := Y) (.push rfl (by simp)) (fun _ _ _ => rfl) ⟨rfl, rfl, rfl⟩ (by simp) hsame (fun _ h => h) (fun _ h => h) hrep.zy (fun b hb => .inl hb) (fun b hb => .inl hb) (fun q o hq => by simp at hq) (fun q r o o' b hq => by simp at hq) (fun q o b hq => by simp at hq)
    exact this
theorem A_lit (hw : wantedA n T ops o = true) (hd : o.dst = some d) (t : TypeId) (len : Nat) (parts : Array (Nat × Operand)) (ho : o.op = .buildSlice t len parts) {e : TypeId} (ht : P.underlying t = some (.slice e)) {z : Value} {size bytes : Nat} (hI : (P.info? e).map (fun i => (i.zero, i.size, i.bytes)) = some (some z, size, bytes))
    {qs : List (Nat × List AV)} (hq : Parts n T parts.toList qs) {els : List (List Tr)} (he : litA size 0 qs = some els) {els' : List (List Tr)} (he' : els = els') (hlen : els'.length = len) (h0 : len * size ≠ 0) (hm : len * size ≤ 16777216) (hn : len ≤ 16777216)
    {heap' : List Ob} {N : Nat} (hat : AtL heap N [.row 0 e size els'] heap') (k : AL P ops Q rest n (pu T d (.sl N 0 len)) heap') : AL P ops Q (o :: rest) n T heap := by
  subst he'
  refine AL.act hw hd (fun en a w ρ Z Y hR => ?_) k
  have hrep := hR.ok.rep
  obtain ⟨vss, v1, v2, v3, v4⟩ := lit_open hR hq he
  obtain ⟨inf, hin, hz, hs, hb⟩ := info_of hI
  have hlen' : vss.flatten.length = len * size := by rw [v4.len, hlen]
  have hfill := fill_lit (size := size) (parts.toList.map (fun x => (x.1, a.eval x.2))) vss 0 ((Array.range (len * size)).map (z.cells[· % z.cells.size]!)).toList (by simpa using v2) v3 (by simp [v1, hlen])
  have hsame : ∀ b, b < w.heap.size → (w.alloc (.cells vss.flatten.toArray e)).heap[b]? = w.heap[b]? := fun b hb => Below.heap_alloc w _ b hb
  have hzz : ∀ b, Z b → Z b ∧ (w.alloc (.cells vss.flatten.toArray e)).heap[b]? = w.heap[b]? := fun b hb => ⟨hb, hsame b (hrep.ylt b (hrep.zy b hb))⟩
  have hrow : (w.alloc (.cells vss.flatten.toArray e)).ownsRow 0 e size (.slice (some ⟨w.heap.size, 0, none⟩) len len) len vss.flatten := by
    have := World.ownsRow_lit (base := 0) (e := e) (size := size) w vss.flatten.toArray len (Nat.zero_le _) (by simp only [maxLen]; omega) (by simpa using hlen')
    simpa using this
  have hl0 : len ≠ 0 := fun h => h0 (by rw [h]; simp)
  obtain ⟨ρ', k1, k2, k3, k4⟩ := hR.ok.push1 (o := .row 0 e size els) hat (w' := w.alloc (.cells vss.flatten.toArray e)) (pl := ⟨some ⟨w.heap.size, 0, none⟩, len, size⟩) ⟨rfl, rfl, rfl⟩ (by simp) hsame
    (fun ρ' hN hρ => ⟨by rw [hN], _, v4.mono fun _ _ h => Frz.mono hzz h, by rw [hN, hlen]; exact .inr ⟨by show 0 < len; omega, hrow⟩⟩)
    (fun b hb _ => by simp at hb; subst hb; simp)
  refine ⟨.slice (some ⟨w.heap.size, 0, none⟩) len len, _, ρ', Z, Y, ?_, k1, k2, ?_⟩
  · refine val_of (s := Instr.buildSlice t len (parts.map (fun (i, x) => (i, a.eval x)))) (by unfold execOp; rw [ho]) ?_
    have e1 : (sizeOf e).run P w = .ok size w := by simp [sizeOf, typeInfo, hin, hs]
    have e2 : (zeroValue e).run P w = .ok z w := by simp [zeroValue, typeInfo, hin, hz]
    have hm' : ¬ (len * size > 2 ^ 24) := by omega
    have e5 : (parts.map (fun (i, x) => (i, a.eval x))).toList = parts.toList.map (fun x => (x.1, a.eval x.2)) := by simp
    simp only [Nat.zero_mul, List.take_zero, List.nil_append] at hfill
    simp only [Instr.buildSlice, Sem.run_bind, run_underlying ht, Result.andThen_ok, e1, if_neg hm', if_neg h0, e2, Sem.run_pure, e5]
    simp only [Array.toArray_toList] at hfill
    simp only [hfill]
    simp [newRow, Result.andThen]
  · have := Val.sl (Kn := Kn heap') (ρ := ρ') (w := w.alloc (.cells vss.flatten.toArray e)) (Z := Z) (Y := Y) (i := N) (k := 0) (n := len) ⟨_, hat.one, Nat.le_refl _⟩ (by rw [k3]; exact Nat.le_refl _) (by rw [k3]; intro e; cases e)
    rw [k3] at this
    exact this
inductive Args (n : Fr) (T : Nat → AV) : List Operand → List AV → Prop
  | nil : Args n T [] []
  | cons {x : Operand} {y : AV} {l : List Operand} {m : List AV} (h : evA n T x = y) (k : Args n T l m) : Args n T (x :: l) (y :: m)
theorem Args.get {l : List Operand} {m : List AV} (h : Args n T l m) : m = l.map (evA n T) := by
  induction h with
  | nil => rfl
  | cons h k ih => rw [ih, ← h]; rfl
theorem A_fn (hw : wantedA n T ops o = true) (hd : o.dst = some d) (f : Fn) (first cap : Array Operand) (ho : o.op = .makeFunc f first cap) {us vs : List AV} (hf : Args n T first.toList us) (hc : Args n T cap.toList vs) (k : AL P ops Q rest n (pu T d (.fn f us vs)) heap) : AL P ops Q (o :: rest) n T heap := by
  refine AL.val hw hd (fun en a w ρ Z Y hR => ?_) k
  have e1 := hf.get
  have e2 := hc.get
  subst e1 e2
  refine ⟨.func f (first.toList.map a.eval).toArray (cap.toList.map a.eval).toArray, val_of (s := Instr.makeFunc f (first.map a.eval) (cap.map a.eval)) (by unfold execOp; rw [ho]) ?_, .fn (by simp) (by simp) (fun j x u hj hu => ?_) (fun j x u hj hu => ?_)⟩
  · have q1 : first.map a.eval = (first.toList.map a.eval).toArray := by apply Array.toList_inj.1; simp
    have q2 : cap.map a.eval = (cap.toList.map a.eval).toArray := by apply Array.toList_inj.1; simp
    rw [q1, q2]; rfl
  · rw [List.getElem?_map] at hj hu
    cases hx : first.toList[j]? with
    | none => rw [hx] at hj; cases hj
    | some y => rw [hx] at hj hu; cases hj; cases hu; exact hR.eval y
  · rw [List.getElem?_map] at hj hu
    cases hx : cap.toList[j]? with
    | none => rw [hx] at hj; cases hj
    | some y => rw [hx] at hj hu; cases hj; cases hu; exact hR.eval y
theorem A_pick (hw : wantedA n T ops o = true) (hd : o.dst = some d) (c x y : Operand) (ho : o.op = .pick c x y) {b : Bool} (hc : evA n T c = .t (.v (.bool b))) {u v : AV} (hx : evA n T x = u) (hy : evA n T y = v) {r : AV} (hr : (bif b then u else v) = r) (k : AL P ops Q rest n (pu T d r) heap) : AL P ops Q (o :: rest) n T heap := by
  subst hx hy hr
  refine AL.val hw hd (fun en a w ρ Z Y hR => ?_) k
  have e1 := cvA_open (u := .bool b) (by rw [hc]; rfl) (hR.eval c)
  refine ⟨if b then a.eval x else a.eval y, ?_, ?_⟩
  · unfold execOp
    simp only [ho, e1]
    cases b <;> simp [asBool, Result.andThen]
  · cases b
    · exact hR.eval y
    · exact hR.eval x
end
inductive FzR (i k : Nat) (els : List (List Tr)) : AV → AV → Prop
  | all {m : Nat} (hm : els.length = m) : FzR i k els (.sl i k m) (.t (.lst els))
  | sl {m : Nat} (hm : m ≤ els.length) : FzR i k els (.sl i k m) (.t (.lst (els.take m)))
  | sub {off m : Nat} (hm : off + m ≤ els.length) : FzR i k els (.sub i k off m) (.t (.lst ((els.drop off).take m)))
  | nlt : FzR i k els .nl (.t (.lst []))
  | same (x : AV) : FzR i k els x x
  | agg {l l' : List AV} (h1 : l.length = l'.length) (h : ∀ (j : Nat) x y, l[j]? = some x → l'[j]? = some y → FzR i k els x y) : FzR i k els (.agg l) (.agg l')
inductive FzL (i k : Nat) (els : List (List Tr)) : List AV → List AV → Prop
  | nil : FzL i k els [] []
  | cons {x y : AV} {l l' : List AV} (h : FzR i k els x y) (g : FzL i k els l l') : FzL i k els (x :: l) (y :: l')
theorem FzL.get {i k : Nat} {els : List (List Tr)} {l l' : List AV} (h : FzL i k els l l') : l.length = l'.length ∧ ∀ (j : Nat) x y, l[j]? = some x → l'[j]? = some y → FzR i k els x y := by
  induction h with
  | nil => exact ⟨rfl, fun j x y h => by simp at h⟩
  | cons h k ih =>
    refine ⟨by simp [ih.1], fun j x y hj hy => ?_⟩
    cases j with
    | zero => simp at hj hy; subst hj hy; exact h
    | succ j => exact ih.2 j x y (by simpa using hj) (by simpa using hy)
theorem FzR.aggL {i k : Nat} {els : List (List Tr)} {l l' : List AV} (h : FzL i k els l l') : FzR i k els (.agg l) (.agg l') := .agg h.get.1 h.get.2
theorem frz_take {w : World} {Z : Nat → Prop} {s : Nat} {a : Option Addr} {c m : Nat} {els : List (List Tr)} {xs : List Value} (hr : Rs w s a els.length c xs) (he : Elems (Frz w Z) s els xs) (hz : xs ≠ [] → Z (adr a).block) (hm : m ≤ els.length) : Frz w Z (.lst (els.take m)) (.slice a m c) :=
  .shut (by rw [List.length_take]; omega) (rs_take hr hm) (fun hne => hz fun e => by rw [e] at hne; simp at hne) (he.take m)
theorem FzR.val {Kn : Nat → Nat → Prop} {ρ : Rho} {w : World} {Z Y : Nat → Prop} {i k : Nat} {els : List (List Tr)} (hf : ∀ m, m ≤ els.length → Frz w Z (.lst (els.take m)) (.slice (ρ i k).a m (ρ i k).c)) (hg : ∀ (off m : Nat) (a : Option Addr) (c : Nat), m ≤ c → c ≤ maxLen → (a = .none → m = 0 ∧ c = 0) → (m ≠ 0 → a = some ((adr (ρ i k).a).add (off * (ρ i k).s))) → off + m ≤ els.length → Frz w Z (.lst ((els.drop off).take m)) (.slice a m c)) {x y : AV} (h : FzR i k els x y) : ∀ {v : Value}, Val Kn ρ w Z Y x v → Val Kn ρ w Z Y y v := by
  induction h with
  | all hm =>
    intro v hv
    cases hv with
    | sl hk hc h0 =>
      have := hf els.length (Nat.le_refl _)
      rw [List.take_length] at this
      subst hm
      exact .t this
  | sl hm =>
    intro v hv
    cases hv with
    | sl hk hc h0 => exact .t (hf _ hm)
  | sub hm =>
    intro v hv
    cases hv with
    | sub hk hn' hmx h0 ha => exact .t (hg _ _ _ _ hn' hmx h0 ha hm)
  | nlt =>
    intro v hv
    cases hv with
    | nl sa => exact .t (.lst (size := 0) (xs := []) ⟨Nat.le_refl _, Nat.zero_le _, fun _ => ⟨rfl, rfl⟩, by simp, fun j u hj => by simp at hj⟩ (fun h => absurd rfl h) rfl (fun _ h => by simp at h) (fun i cs j x u hi => by simp at hi))
  | same x => intro v hv; exact hv
  | agg h1 h ih =>
    intro v hv
    cases hv with
    | agg e1 ho hu =>
      refine .agg (by rw [← h1]; exact e1) ho (fun j y u hj hu' => ?_)
      have hlt := get_lt hj
      rw [← h1] at hlt
      exact ih j _ y (List.getElem?_eq_getElem hlt) hj (hu j _ u (List.getElem?_eq_getElem hlt) hu')
theorem Wk.freeze {n : Fr} {T : Nat → AV} {heap : List Ob} (i : Nat) {k : Nat} {E : TypeId} {s : Nat} {els : List (List Tr)} (hi : heap[i]? = some (.row k E s els)) (d : Nat) {x y : AV} (hd : evA n T (.tmp d) = x) (hr : FzR i k els x y) {heap' : List Ob} (hh : heap.set i (.gone k) = heap') : Wk n T heap (pu T d y) heap' := by
  subst hh hd
  rintro e a w ⟨ρ, Z, Y, hR⟩
  have hrep := hR.ok.rep
  obtain ⟨h1, xs, h2, h3, h4⟩ := hrep.row hi
  have hz : ∀ b, Z b → (Z b ∨ (Ob.row k E s els).blk ρ i = some b) ∧ w.heap[b]? = w.heap[b]? := fun b hb => ⟨.inl hb, rfl⟩
  have hy : ∀ b, Y b → (Y b ∨ (Ob.row k E s els).blk ρ i = some b) ∧ w.heap[b]? = w.heap[b]? := fun b hb => ⟨.inl hb, rfl⟩
  have hm : ∀ x v, Val (Kn heap) ρ w Z Y x v → Val (Kn (heap.set i (.gone k))) ρ w (fun b => Z b ∨ (Ob.row k E s els).blk ρ i = some b) (fun b => Y b ∨ (Ob.row k E s els).blk ρ i = some b) x v := fun x v hv =>
    hv.mono (fun j q hj => ⟨hj.set hi (Nat.le_refl _), rfl⟩) hz hy
  have hok : Ok e (heap.set i (.gone k)) w ρ (fun b => Z b ∨ (Ob.row k E s els).blk ρ i = some b) (fun b => Y b ∨ (Ob.row k E s els).blk ρ i = some b) := by
    refine hR.ok.mono (hrep.freeze hi) (fun j q hj => ⟨hj.set hi (Nat.le_refl _), rfl⟩) ⟨rfl, rfl, rfl⟩ (Nat.le_refl _) (fun j p b hj hp => ?_) (fun b hb => .inl hb) (fun b hb => .inl hb) (fun b hb => hb.elim .inl fun hb => .inr (hR.ok.dom i _ b hi hb)) (fun _ _ _ => rfl)
    rw [List.getElem?_set] at hj
    split at hj
    · split at hj <;> cases hj
      cases hp
    · exact hR.ok.dom j p b hj hp
  have hblk : xs ≠ [] → Z (adr (ρ i k).a).block ∨ (Ob.row k E s els).blk ρ i = some (adr (ρ i k).a).block := fun hne => .inr (by
    rcases h3 with ⟨_, _, e⟩ | ⟨hc, hh⟩
    · exact absurd e hne
    · simp only [Ob.blk]
      rw [if_neg (by omega)]
      cases ha : (ρ i k).a with
      | some b => rfl
      | none =>
        rw [ha] at hh
        rcases hh.2 with ⟨e, _⟩ | ⟨g, cap, cur, e, _⟩
        · simp only [Value.slice.injEq] at e; omega
        · simp at e)
  have hfz : ∀ m, m ≤ els.length → Frz w (fun b => Z b ∨ (Ob.row k E s els).blk ρ i = some b) (.lst (els.take m)) (.slice (ρ i k).a m (ρ i k).c) := fun m hm =>
    frz_take h4 (h2.mono fun _ _ h => Frz.mono hz h) hblk hm
  have hgz : ∀ (off m : Nat) (a : Option Addr) (c : Nat), m ≤ c → c ≤ maxLen → (a = .none → m = 0 ∧ c = 0) → (m ≠ 0 → a = some ((adr (ρ i k).a).add (off * (ρ i k).s))) → off + m ≤ els.length → Frz w (fun b => Z b ∨ (Ob.row k E s els).blk ρ i = some b) (.lst ((els.drop off).take m)) (.slice a m c) := by
    intro off m a c hn' hmx h0 ha hle
    have e : ((els.drop off).take m).length = m := by rw [List.length_take, List.length_drop]; omega
    have hm0 : ∀ {q : List Value}, q = (xs.drop (off * s)).take (m * s) → q ≠ [] → m ≠ 0 := fun e1 hne e2 => hne (by rw [e1, e2]; simp)
    have hE := (((h2.mono fun _ _ h => Frz.mono hz h).drop off).take m)
    refine .shut (xs := (xs.drop (off * s)).take (m * s)) (size := s) e ⟨hn', hmx, h0, ?_, fun j u hj => ?_⟩ (fun hne => ?_) hE
    · have := hE.len
      rw [e] at this; exact this
    · have hne := hm0 rfl (fun e => by rw [e] at hj; simp at hj)
      rw [List.getElem?_take] at hj
      split at hj
      · rw [ha hne, List.getElem?_drop] at *
        show w.cell? (Addr.add ((adr (ρ i k).a).add _) j) = _
        rw [add_add, h1]
        exact h4.cells _ u hj
      · cases hj
    · have hne' := hm0 rfl hne
      rw [ha hne']
      show Z (Addr.add _ _).block ∨ _ = some (Addr.add _ _).block
      rw [add_block]
      exact hblk (fun e => by rw [e] at hne; simp at hne)
  have hv := hR.eval (.tmp d)
  have h5 := hR.move hok hm
  have h6 := FzR.val hfz hgz hr (hm _ _ hv)
  refine ⟨ρ, _, _, h5.ok, h5.defers, h5.n, h5.hl, fun t v ht => ?_⟩
  by_cases c : t = d
  · subst c
    show Val _ _ _ _ _ (pu T t y t) v
    simp only [pu, Nat.beq_refl, cond_true]
    simp only [Act.eval, Array.getD_eq_getD_getElem?, ht, Option.getD_some] at h6
    exact h6
  · show Val _ _ _ _ _ (pu T d y t) v
    have h1 : Nat.beq t d = false := by
      cases hb : Nat.beq t d
      · rfl
      · exact absurd (Nat.eq_of_beq_eq_true hb) c
    simp only [pu, h1, cond_false]
    exact h5.at_ t v ht
end Go.Proofs.Ytmljglphegeilaa

namespace Go.Proofs.Ytmljglphegeilaa
set_option linter.unusedVariables false
set_option linter.unusedSimpArgs false
set_option linter.unnecessarySimpa false
open Go.RowKit
def idsA : AV → List Nat
  | .sl i _ _ => [i]
  | .sub i _ _ _ => [i]
  | _ => []
section
variable {P : Program} {ops : Array Oper} {rest : List Oper} {o : Oper} {n : Fr} {T T' : Nat → AV} {heap h' : List Ob} {d : Nat}
theorem ev_eq (hT : ∀ t ∈ o.looksAt ops, T' t = T t) {x : Operand} (hx : x ∈ o.op.operands.toList) : evA n T' x = evA n T x := by
  cases x with
  | tmp t =>
    have : t ∈ o.looksAt ops := List.mem_append_left _ (List.mem_filterMap.2 ⟨.tmp t, hx, rfl⟩)
    simp only [evA, hT t this]
  | _ => rfl
theorem wanted_eqA (hT : ∀ t ∈ o.looksAt ops, T' t = T t) : wantedA n T' ops o = wantedA n T ops o := by
  unfold wantedA
  cases hg : o.guard with
  | none => rfl
  | some q =>
    obtain ⟨j, want⟩ := q
    simp only
    cases hd : (ops[j]?).bind (·.dst) with
    | none => rfl
    | some d =>
      have : d ∈ o.looksAt ops := List.mem_append_right _ (by simp [hg, hd])
      simp only [evA, hT d this]
theorem skips_eq (hT : ∀ t ∈ o.looksAt ops, T' t = T t) : skipsA n T' ops o = skipsA n T ops o := by
  unfold skipsA
  cases hg : o.guard with
  | none => rfl
  | some q =>
    obtain ⟨j, want⟩ := q
    simp only
    cases hd : (ops[j]?).bind (·.dst) with
    | none => rfl
    | some d =>
      have : d ∈ o.looksAt ops := List.mem_append_right _ (by simp [hg, hd])
      simp only [evA, hT d this]
theorem Rd.agree {s : Nat} {x : AV} {els : List (List Tr)} (hh : ∀ i ∈ idsA x, h'[i]? = heap[i]?) (h : Rd heap s x els) : Rd h' s x els := by
  cases h with
  | ln h => exact .ln h
  | lst h => exact .lst h
  | nl => exact .nl
  | sl hi hm => exact .sl (by rw [hh _ (by simp [idsA])]; exact hi) hm
  | all hi hm => exact .all (by rw [hh _ (by simp [idsA])]; exact hi) hm
  | sub hi hm => exact .sub (by rw [hh _ (by simp [idsA])]; exact hi) hm
theorem Parts.agree (hT : ∀ t ∈ o.looksAt ops, T' t = T t) {ps : List (Nat × Operand)} {qs : List (Nat × List AV)} (hp : ∀ y, (∃ i, (i, y) ∈ ps) → y ∈ o.op.operands.toList) (h : Parts n T ps qs) : Parts n T' ps qs := by
  induction h with
  | nil => exact .nil
  | @cons i x cs ps qs h k ih => exact .cons (by rw [ev_eq hT (hp x ⟨i, by simp⟩)]; exact h) (ih fun y ⟨j, hy⟩ => hp y ⟨j, List.mem_cons_of_mem _ hy⟩)
theorem Args.agree (hT : ∀ t ∈ o.looksAt ops, T' t = T t) {l : List Operand} {m : List AV} (hy : ∀ x ∈ l, x ∈ o.op.operands.toList) (h : Args n T l m) : Args n T' l m := by
  induction h with
  | nil => exact .nil
  | @cons x y l m h k ih => exact .cons (by rw [ev_eq hT (hy x (List.mem_cons_self ..))]; exact h) (ih fun y h => hy y (List.mem_cons_of_mem _ h))
theorem Bd.agree (hT : ∀ t ∈ o.looksAt ops, T' t = T t) {y : Option Operand} {m l : Nat} (hy : ∀ x, y = some x → x ∈ o.op.operands.toList) (h : Bd n T y m l) : Bd n T' y m l := by
  cases h with
  | no => exact .no _
  | yes h h0 hl => exact .yes (by rw [ev_eq hT (hy _ rfl)]; exact h) h0 hl
theorem at_hole {N : Nat} {o : Ob} (h : heap[N]? = some .hole) : ∀ q, q < [o].length → heap[N + q]? = some .hole := fun q hq => by
  have : q = 0 := by simpa using hq
  subst this; exact h
theorem setsAt_one {N : Nat} {o : Ob} (h : heap[N]? = some .hole) : setsAt heap N [o] = heap.set N o := by
  apply List.ext_getElem?
  intro j
  rw [setsAt_get (at_hole h), List.getElem?_set]
  simp only [List.length_singleton]
  by_cases e : N = j
  · subst e
    rw [if_pos ⟨by omega, by omega⟩, if_pos rfl, if_pos (get_lt h)]; simp
  · rw [if_neg (by omega), if_neg e]
theorem R_skip (hw : skipsA n T ops o = true) (hd : o.dst = some d) {F : List Dl → (Nat → AV) → List Ob → Prop} {acc : List Dl} (k : RG P ops n F rest (acc ++ [⟨some d, .tup [], [], []⟩]) (pu T d (.tup [])) heap) : RG P ops n F (o :: rest) acc T heap :=
  RG.cons hd.symm (fun T' h' hT hH hlen_ => AL.skip (by rw [skips_eq hT]; exact hw) hd (AL.nil ⟨rfl, rfl, rfl⟩)) rfl rfl k
theorem R_skip0 (hw : skipsA n T ops o = true) (hd : o.dst = none) {F : List Dl → (Nat → AV) → List Ob → Prop} {acc : List Dl} (k : RG P ops n F rest (acc ++ [⟨none, .any, [], []⟩]) T heap) : RG P ops n F (o :: rest) acc T heap :=
  RG.cons hd.symm (fun T' h' hT hH hlen_ => AL.skip0 (by rw [skips_eq hT]; exact hw) hd (AL.nil ⟨rfl, rfl, rfl⟩)) rfl rfl k
theorem R_move {F : List Dl → (Nat → AV) → List Ob → Prop} {acc : List Dl} (hw : wantedA n T ops o = true) (hd : o.dst = some d) (x : Operand) (ho : o.op = .move x ∨ o.op = .assign x) {y : AV} (hx : evA n T x = y) (k : RG P ops n F rest (acc ++ [⟨some d, y, [], []⟩]) (pu T d y) heap) : RG P ops n F (o :: rest) acc T heap := by
  exact RG.cons hd.symm (fun T' h' hT hH hlen_ => A_move (by rw [wanted_eqA hT]; exact hw) hd x ho (by rw [ev_eq hT (by rcases ho with ho | ho <;> simp [ho, Op.operands])]; exact hx) (AL.nil ⟨rfl, rfl, rfl⟩)) rfl (by first | rfl | exact hh) k
theorem R_box {F : List Dl → (Nat → AV) → List Ob → Prop} {acc : List Dl} (hw : wantedA n T ops o = true) (hd : o.dst = some d) (t : TypeId) (x : Operand) (ho : o.op = .box t x) {cs : List AV} (hx : (evA n T x).flat = some cs) {heap' : List Ob} {N : Nat} (hat : heap[N]? = some .hole) (hh : heap.set N (.box t cs) = heap') (k : RG P ops n F rest (acc ++ [⟨some d, (.ptr N 0), [(N, .box t cs)], [N]⟩]) (pu T d (.ptr N 0)) heap') : RG P ops n F (o :: rest) acc T heap := by
  exact RG.cons hd.symm (fun T' h' hT hH hlen_ => A_box (by rw [wanted_eqA hT]; exact hw) hd t x ho (by rw [ev_eq hT (by simp [ho, Op.operands, Call.operands])]; exact hx) (.fill (at_hole (by rw [hH N (by simp)]; exact hat)) (setsAt_one (by rw [hH N (by simp)]; exact hat))) (AL.nil ⟨rfl, rfl, rfl⟩)) rfl (by first | rfl | exact hh) k
theorem R_alloc {F : List Dl → (Nat → AV) → List Ob → Prop} {acc : List Dl} (hw : wantedA n T ops o = true) (hd : o.dst = some d) (t : TypeId) (ho : o.op = .alloc t) {z : Value} {size bytes : Nat} (hI : (P.info? t).map (fun i => (i.zero, i.size, i.bytes)) = some (some z, size, bytes)) {cs : List AV} (hx : (ofConst z).flat = some cs) {heap' : List Ob} {N : Nat} (hat : heap[N]? = some .hole) (hh : heap.set N (.box t cs) = heap') (k : RG P ops n F rest (acc ++ [⟨some d, (.ptr N 0), [(N, .box t cs)], [N]⟩]) (pu T d (.ptr N 0)) heap') : RG P ops n F (o :: rest) acc T heap := by
  exact RG.cons hd.symm (fun T' h' hT hH hlen_ => A_alloc (by rw [wanted_eqA hT]; exact hw) hd t ho hI hx (.fill (at_hole (by rw [hH N (by simp)]; exact hat)) (setsAt_one (by rw [hH N (by simp)]; exact hat))) (AL.nil ⟨rfl, rfl, rfl⟩)) rfl (by first | rfl | exact hh) k
theorem R_field {F : List Dl → (Nat → AV) → List Ob → Prop} {acc : List Dl} (hw : wantedA n T ops o = true) (hd : o.dst = some d) (t : TypeId) (x : Operand) (f : Nat) (ho : o.op = .fieldAddr t x f) {fs : Array Field} (hu : P.underlying t = some (.struct fs)) {fd : Field} (hf : fs[f]? = some fd) {z : Option Value} {size bytes : Nat} (hI : (P.info? fd.type).map (fun i => (i.zero, i.size, i.bytes)) = some (z, size, bytes)) (hs : size ≠ 0) (m : Nat) (hm : fd.offset = m) {y : AV} (hy : shiftA m (evA n T x) = some y) (k : RG P ops n F rest (acc ++ [⟨some d, y, [], []⟩]) (pu T d y) heap) : RG P ops n F (o :: rest) acc T heap := by
  exact RG.cons hd.symm (fun T' h' hT hH hlen_ => A_field (by rw [wanted_eqA hT]; exact hw) hd t x f ho hu hf hI hs m hm (by rw [ev_eq hT (by simp [ho, Op.operands, Call.operands])]; exact hy) (AL.nil ⟨rfl, rfl, rfl⟩)) rfl (by first | rfl | exact hh) k
theorem R_load {F : List Dl → (Nat → AV) → List Ob → Prop} {acc : List Dl} (hw : wantedA n T ops o = true) (hd : o.dst = some d) (t : TypeId) (x : Operand) (ho : o.op = .load t x) {ds : TypeDesc} (hu : P.underlying t = some ds) (hds : (match ds with | .struct _ | .array _ _ => true | _ => false) = false) {i off : Nat} (hx : evA n T x = .ptr i off) {t' : TypeId} {cs : List AV} (hi : heap[i]? = some (.box t' cs)) {u : AV} (hc : cs[off]? = some u) (k : RG P ops n F rest (acc ++ [⟨some d, u, [], [i]⟩]) (pu T d u) heap) : RG P ops n F (o :: rest) acc T heap := by
  exact RG.cons hd.symm (fun T' h' hT hH hlen_ => A_load (by rw [wanted_eqA hT]; exact hw) hd t x ho hu hds (by rw [ev_eq hT (by simp [ho, Op.operands, Call.operands])]; exact hx) (by rw [hH i (by simp)]; exact hi) hc (AL.nil ⟨rfl, rfl, rfl⟩)) rfl (by first | rfl | exact hh) k
theorem R_load_agg {F : List Dl → (Nat → AV) → List Ob → Prop} {acc : List Dl} (hw : wantedA n T ops o = true) (hd : o.dst = some d) (t : TypeId) (x : Operand) (ho : o.op = .load t x) {ds : TypeDesc} (hu : P.underlying t = some ds) (hds : (match ds with | .struct _ | .array _ _ => true | _ => false) = true) {z : Option Value} {size bytes : Nat} (hI : (P.info? t).map (fun i => (i.zero, i.size, i.bytes)) = some (z, size, bytes)) {i off : Nat} (hx : evA n T x = .ptr i off) {t' : TypeId} {cs : List AV} (hi : heap[i]? = some (.box t' cs)) {us' : List AV} (hc : (cs.drop off).take size = us') (hl : us'.length = size) (k : RG P ops n F rest (acc ++ [⟨some d, (.agg us'), [], [i]⟩]) (pu T d (.agg us')) heap) : RG P ops n F (o :: rest) acc T heap := by
  exact RG.cons hd.symm (fun T' h' hT hH hlen_ => A_load_agg (by rw [wanted_eqA hT]; exact hw) hd t x ho hu hds hI (by rw [ev_eq hT (by simp [ho, Op.operands, Call.operands])]; exact hx) (by rw [hH i (by simp)]; exact hi) hc hl (AL.nil ⟨rfl, rfl, rfl⟩)) rfl (by first | rfl | exact hh) k
theorem R_load_lp {F : List Dl → (Nat → AV) → List Ob → Prop} {acc : List Dl} (hw : wantedA n T ops o = true) (hd : o.dst = some d) (t : TypeId) (x : Operand) (ho : o.op = .load t x) {ds : TypeDesc} (hu : P.underlying t = some ds) (hds : (match ds with | .struct _ | .array _ _ => true | _ => false) = false) {cs : List AV} (hx : evA n T x = .lp cs) {u : AV} (hc : cs[0]? = some u) (k : RG P ops n F rest (acc ++ [⟨some d, u, [], []⟩]) (pu T d u) heap) : RG P ops n F (o :: rest) acc T heap := by
  exact RG.cons hd.symm (fun T' h' hT hH hlen_ => A_load_lp (by rw [wanted_eqA hT]; exact hw) hd t x ho hu hds (by rw [ev_eq hT (by simp [ho, Op.operands, Call.operands])]; exact hx) hc (AL.nil ⟨rfl, rfl, rfl⟩)) rfl (by first | rfl | exact hh) k
theorem R_load_lp_agg {F : List Dl → (Nat → AV) → List Ob → Prop} {acc : List Dl} (hw : wantedA n T ops o = true) (hd : o.dst = some d) (t : TypeId) (x : Operand) (ho : o.op = .load t x) {ds : TypeDesc} (hu : P.underlying t = some ds) (hds : (match ds with | .struct _ | .array _ _ => true | _ => false) = true) {z : Option Value} {size bytes : Nat} (hI : (P.info? t).map (fun i => (i.zero, i.size, i.bytes)) = some (z, size, bytes)) {cs : List AV} (hx : evA n T x = .lp cs) {us' : List AV} (hc : cs.take size = us') (hl : us'.length = size) (k : RG P ops n F rest (acc ++ [⟨some d, (.agg us'), [], []⟩]) (pu T d (.agg us')) heap) : RG P ops n F (o :: rest) acc T heap := by
  exact RG.cons hd.symm (fun T' h' hT hH hlen_ => A_load_lp_agg (by rw [wanted_eqA hT]; exact hw) hd t x ho hu hds hI (by rw [ev_eq hT (by simp [ho, Op.operands, Call.operands])]; exact hx) hc hl (AL.nil ⟨rfl, rfl, rfl⟩)) rfl (by first | rfl | exact hh) k
theorem R_load_rp {F : List Dl → (Nat → AV) → List Ob → Prop} {acc : List Dl} (hw : wantedA n T ops o = true) (hd : o.dst = some d) (t : TypeId) (x : Operand) (ho : o.op = .load t x) {ds : TypeDesc} (hu : P.underlying t = some ds) (hds : (match ds with | .struct _ | .array _ _ => true | _ => false) = false) {i k' idx off : Nat} (hx : evA n T x = .rp i k' idx off) {E : TypeId} {s : Nat} {els : List (List Tr)} (hi : heap[i]? = some (.row k' E s els)) {cs : List Tr} (he : els[idx]? = some cs) {u : Tr} (hc : cs[off]? = some u) (k : RG P ops n F rest (acc ++ [⟨some d, (.t u), [], [i]⟩]) (pu T d (.t u)) heap) : RG P ops n F (o :: rest) acc T heap := by
  exact RG.cons hd.symm (fun T' h' hT hH hlen_ => A_load_rp (by rw [wanted_eqA hT]; exact hw) hd t x ho hu hds (by rw [ev_eq hT (by simp [ho, Op.operands, Call.operands])]; exact hx) (by rw [hH i (by simp)]; exact hi) he hc (AL.nil ⟨rfl, rfl, rfl⟩)) rfl (by first | rfl | exact hh) k
theorem R_load_rp_agg {F : List Dl → (Nat → AV) → List Ob → Prop} {acc : List Dl} (hw : wantedA n T ops o = true) (hd : o.dst = some d) (t : TypeId) (x : Operand) (ho : o.op = .load t x) {ds : TypeDesc} (hu : P.underlying t = some ds) (hds : (match ds with | .struct _ | .array _ _ => true | _ => false) = true) {z : Option Value} {size bytes : Nat} (hI : (P.info? t).map (fun i => (i.zero, i.size, i.bytes)) = some (z, size, bytes)) {i k' idx off : Nat} (hx : evA n T x = .rp i k' idx off) {E : TypeId} {s : Nat} {els : List (List Tr)} (hi : heap[i]? = some (.row k' E s els)) {cs : List Tr} (he : els[idx]? = some cs) {us' : List AV} (hc : ((cs.drop off).take size).map .t = us') (hl : us'.length = size) (k : RG P ops n F rest (acc ++ [⟨some d, (.agg us'), [], [i]⟩]) (pu T d (.agg us')) heap) : RG P ops n F (o :: rest) acc T heap := by
  exact RG.cons hd.symm (fun T' h' hT hH hlen_ => A_load_rp_agg (by rw [wanted_eqA hT]; exact hw) hd t x ho hu hds hI (by rw [ev_eq hT (by simp [ho, Op.operands, Call.operands])]; exact hx) (by rw [hH i (by simp)]; exact hi) he hc hl (AL.nil ⟨rfl, rfl, rfl⟩)) rfl (by first | rfl | exact hh) k
theorem R_idx {F : List Dl → (Nat → AV) → List Ob → Prop} {acc : List Dl} (hw : wantedA n T ops o = true) (hd : o.dst = some d) (t : TypeId) (x ix : Operand) (ho : o.op = .indexAddr t x ix) {e : TypeId} (ht : P.underlying t = some (.slice e)) {z : Option Value} {size bytes : Nat} (hI : (P.info? e).map (fun i => (i.zero, i.size, i.bytes)) = some (z, size, bytes)) (hsz : size ≠ 0) {els : List (List Tr)} (hx : evA n T x = .ln els ∨ evA n T x = .t (.lst els)) {kd : IntKind} {I : Int} (hix : evA n T ix = .t (.v (.int kd I))) (h0I : 0 ≤ I) (J : Nat) (hJ : I.toNat = J) {cs : List Tr} (he : els[J]? = some cs) (hs : cs.length = size) {cs' : List AV} (hc : cs.map .t = cs') (k : RG P ops n F rest (acc ++ [⟨some d, (.lp cs'), [], []⟩]) (pu T d (.lp cs')) heap) : RG P ops n F (o :: rest) acc T heap := by
  exact RG.cons hd.symm (fun T' h' hT hH hlen_ => A_idx (by rw [wanted_eqA hT]; exact hw) hd t x ix ho ht hI hsz (by rw [ev_eq hT (by simp [ho, Op.operands, Call.operands])]; exact hx) (by rw [ev_eq hT (by simp [ho, Op.operands, Call.operands])]; exact hix) h0I J hJ he hs hc (AL.nil ⟨rfl, rfl, rfl⟩)) rfl (by first | rfl | exact hh) k
theorem R_idx_sl {F : List Dl → (Nat → AV) → List Ob → Prop} {acc : List Dl} (hw : wantedA n T ops o = true) (hd : o.dst = some d) (t : TypeId) (x ix : Operand) (ho : o.op = .indexAddr t x ix) {e : TypeId} (ht : P.underlying t = some (.slice e)) {z : Option Value} {size bytes : Nat} (hI : (P.info? e).map (fun i => (i.zero, i.size, i.bytes)) = some (z, size, bytes)) {i k' m : Nat} (hx : evA n T x = .sl i k' m) {E : TypeId} {els : List (List Tr)} (hi : heap[i]? = some (.row k' E size els)) (hm : m ≤ els.length) {kd : IntKind} {I : Int} (hix : evA n T ix = .t (.v (.int kd I))) (h0I : 0 ≤ I) (J : Nat) (hJ : I.toNat = J) (hlt : J < m) (k : RG P ops n F rest (acc ++ [⟨some d, (.rp i k' J 0), [], [i]⟩]) (pu T d (.rp i k' J 0)) heap) : RG P ops n F (o :: rest) acc T heap := by
  exact RG.cons hd.symm (fun T' h' hT hH hlen_ => A_idx_sl (by rw [wanted_eqA hT]; exact hw) hd t x ix ho ht hI (by rw [ev_eq hT (by simp [ho, Op.operands, Call.operands])]; exact hx) (by rw [hH i (by simp)]; exact hi) hm (by rw [ev_eq hT (by simp [ho, Op.operands, Call.operands])]; exact hix) h0I J hJ hlt (AL.nil ⟨rfl, rfl, rfl⟩)) rfl (by first | rfl | exact hh) k
theorem R_idx_sub {F : List Dl → (Nat → AV) → List Ob → Prop} {acc : List Dl} (hw : wantedA n T ops o = true) (hd : o.dst = some d) (t : TypeId) (x ix : Operand) (ho : o.op = .indexAddr t x ix) {e : TypeId} (ht : P.underlying t = some (.slice e)) {z : Option Value} {size bytes : Nat} (hI : (P.info? e).map (fun i => (i.zero, i.size, i.bytes)) = some (z, size, bytes)) {i k' off m : Nat} (hx : evA n T x = .sub i k' off m) {E : TypeId} {els : List (List Tr)} (hi : heap[i]? = some (.row k' E size els)) {kd : IntKind} {I : Int} (hix : evA n T ix = .t (.v (.int kd I))) (h0I : 0 ≤ I) (J : Nat) (hJ : I.toNat = J) (hlt : J < m) (k : RG P ops n F rest (acc ++ [⟨some d, (.rp i k' (off + J) 0), [], [i]⟩]) (pu T d (.rp i k' (off + J) 0)) heap) : RG P ops n F (o :: rest) acc T heap := by
  exact RG.cons hd.symm (fun T' h' hT hH hlen_ => A_idx_sub (by rw [wanted_eqA hT]; exact hw) hd t x ix ho ht hI (by rw [ev_eq hT (by simp [ho, Op.operands, Call.operands])]; exact hx) (by rw [hH i (by simp)]; exact hi) (by rw [ev_eq hT (by simp [ho, Op.operands, Call.operands])]; exact hix) h0I J hJ hlt (AL.nil ⟨rfl, rfl, rfl⟩)) rfl (by first | rfl | exact hh) k
theorem R_store {F : List Dl → (Nat → AV) → List Ob → Prop} {acc : List Dl} (hw : wantedA n T ops o = true) (hd : o.dst = none) (t : TypeId) (x y : Operand) (ho : o.op = .store t x y) {z : Option Value} {size bytes : Nat} (hI : (P.info? t).map (fun i => (i.zero, i.size, i.bytes)) = some (z, size, bytes)) {i off : Nat} (hx : evA n T x = .ptr i off) {t' : TypeId} {cs : List AV} (hi : heap[i]? = some (.box t' cs)) {us : List AV} (hy : (evA n T y).flat = some us) (hl : us.length = size) (hf : off + us.length ≤ cs.length) {cs' : List AV} (hc : cs.take off ++ us ++ cs.drop (off + us.length) = cs') {heap' : List Ob} (hh : heap.set i (.box t' cs') = heap') (k : RG P ops n F rest (acc ++ [⟨none, .any, [(i, .box t' cs')], [i]⟩]) T heap') : RG P ops n F (o :: rest) acc T heap := by
  exact RG.cons hd.symm (fun T' h' hT hH hlen_ => A_store (by rw [wanted_eqA hT]; exact hw) hd t x y ho hI (by rw [ev_eq hT (by simp [ho, Op.operands, Call.operands])]; exact hx) (by rw [hH i (by simp)]; exact hi) (by rw [ev_eq hT (by simp [ho, Op.operands, Call.operands])]; exact hy) hl hf hc rfl (AL.nil ⟨rfl, rfl, rfl⟩)) rfl (by first | rfl | exact hh) k
theorem R_store_rp {F : List Dl → (Nat → AV) → List Ob → Prop} {acc : List Dl} (hw : wantedA n T ops o = true) (hd : o.dst = none) (t : TypeId) (x y : Operand) (ho : o.op = .store t x y) {z : Option Value} {tsize bytes : Nat} (hI : (P.info? t).map (fun i => (i.zero, i.size, i.bytes)) = some (z, tsize, bytes)) (ht0 : tsize ≠ 0) {i k' idx off : Nat} (hx : evA n T x = .rp i k' idx off) {E : TypeId} {s : Nat} {els : List (List Tr)} (hi : heap[i]? = some (.row k' E s els)) {cs : List Tr} (he : els[idx]? = some cs) {us : List AV} (hy : (evA n T y).flat = some us) (hl : us.length = tsize) {ts : List Tr} (hts : trsA us = some ts) (hf : off + ts.length ≤ s) {els' : List (List Tr)} (hc : els.set idx (cs.take off ++ ts ++ cs.drop (off + ts.length)) = els') {heap' : List Ob} (hh : heap.set i (.row k' E s els') = heap') (k : RG P ops n F rest (acc ++ [⟨none, .any, [(i, .row k' E s els')], [i]⟩]) T heap') : RG P ops n F (o :: rest) acc T heap := by
  exact RG.cons hd.symm (fun T' h' hT hH hlen_ => A_store_rp (by rw [wanted_eqA hT]; exact hw) hd t x y ho hI ht0 (by rw [ev_eq hT (by simp [ho, Op.operands, Call.operands])]; exact hx) (by rw [hH i (by simp)]; exact hi) he (by rw [ev_eq hT (by simp [ho, Op.operands, Call.operands])]; exact hy) hl hts hf hc rfl (AL.nil ⟨rfl, rfl, rfl⟩)) rfl (by first | rfl | exact hh) k
theorem R_len {F : List Dl → (Nat → AV) → List Ob → Prop} {acc : List Dl} (hw : wantedA n T ops o = true) (hd : o.dst = some d) (t : TypeId) (x : Operand) (ho : o.op = .call { callee := .builtin .len, args := #[x], argTypes := #[t] }) {e : TypeId} (ht : P.underlying t = some (.slice e)) {m : Nat} (hx : lenA (evA n T x) = some m) (k : RG P ops n F rest (acc ++ [⟨some d, (.t (.v (.int .i64 (m : Int)))), [], []⟩]) (pu T d (.t (.v (.int .i64 (m : Int))))) heap) : RG P ops n F (o :: rest) acc T heap := by
  exact RG.cons hd.symm (fun T' h' hT hH hlen_ => A_len (by rw [wanted_eqA hT]; exact hw) hd t x ho ht (by rw [ev_eq hT (by simp [ho, Op.operands, Call.operands])]; exact hx) (AL.nil ⟨rfl, rfl, rfl⟩)) rfl (by first | rfl | exact hh) k
theorem R_append {F : List Dl → (Nat → AV) → List Ob → Prop} {acc : List Dl} (hw : wantedA n T ops o = true) (hd : o.dst = some d) (s x : Operand) (t : TypeId) (ho : o.op = .call { callee := .builtin .append, args := #[s, x], argTypes := #[t, t] }) {e : TypeId} (ht : P.underlying t = some (.slice e)) {z : Value} {size bytes : Nat} (hI : (P.info? e).map (fun i => (i.zero, i.size, i.bytes)) = some (some z, size, bytes)) (hzs : z.cells.size = size) {i k' m : Nat} (hs : evA n T s = .sl i k' m) {els : List (List Tr)} (hi : heap[i]? = some (.row k' e size els)) (hm : m ≤ els.length) {news : List (List Tr)} (hx : Rd heap size (evA n T x) news) (b1 : m + news.length ≤ maxLen) (b2 : (m + news.length) * bytes ≤ 140737488355328) {els' : List (List Tr)} (he : els.take m ++ news = els') {heap' : List Ob} (hh : heap.set i (.row (k' + 1) e size els') = heap') {m' : Nat} (hm' : m + news.length = m') (k : RG P ops n F rest (acc ++ [⟨some d, (.sl i (k' + 1) m'), [(i, .row (k' + 1) e size els')], (i :: idsA (evA n T x))⟩]) (pu T d (.sl i (k' + 1) m')) heap') : RG P ops n F (o :: rest) acc T heap := by
  exact RG.cons hd.symm (fun T' h' hT hH hlen_ => A_append (by rw [wanted_eqA hT]; exact hw) hd s x t ho ht hI hzs (by rw [ev_eq hT (by simp [ho, Op.operands, Call.operands])]; exact hs) (by rw [hH i (by simp)]; exact hi) hm (Rd.agree (fun i hi => hH i (by rw [ev_eq hT (by simp [ho, Op.operands, Call.operands])] at hi; simp [hi])) (by rw [ev_eq hT (by simp [ho, Op.operands, Call.operands])]; exact hx)) b1 b2 he rfl hm' (AL.nil ⟨rfl, rfl, rfl⟩)) rfl (by first | rfl | exact hh) k
theorem R_append_nl {F : List Dl → (Nat → AV) → List Ob → Prop} {acc : List Dl} (hw : wantedA n T ops o = true) (hd : o.dst = some d) (s x : Operand) (t : TypeId) (ho : o.op = .call { callee := .builtin .append, args := #[s, x], argTypes := #[t, t] }) {e : TypeId} (ht : P.underlying t = some (.slice e)) {z : Value} {size bytes : Nat} (hI : (P.info? e).map (fun i => (i.zero, i.size, i.bytes)) = some (some z, size, bytes)) (hzs : z.cells.size = size) (hs : evA n T s = .nl) {news : List (List Tr)} (hx : Rd heap size (evA n T x) news) (b1 : news.length ≤ maxLen) (b2 : news.length * bytes ≤ 140737488355328) {els' : List (List Tr)} (he : news = els') {heap' : List Ob} {N : Nat} (hat : heap[N]? = some .hole) (hh : heap.set N (.row 0 e size els') = heap') {m' : Nat} (hm' : news.length = m') (k : RG P ops n F rest (acc ++ [⟨some d, (.sl N 0 m'), [(N, .row 0 e size els')], (N :: idsA (evA n T x))⟩]) (pu T d (.sl N 0 m')) heap') : RG P ops n F (o :: rest) acc T heap := by
  exact RG.cons hd.symm (fun T' h' hT hH hlen_ => A_append_nl (by rw [wanted_eqA hT]; exact hw) hd s x t ho ht hI hzs (by rw [ev_eq hT (by simp [ho, Op.operands, Call.operands])]; exact hs) (Rd.agree (fun i hi => hH i (by rw [ev_eq hT (by simp [ho, Op.operands, Call.operands])] at hi; simp [hi])) (by rw [ev_eq hT (by simp [ho, Op.operands, Call.operands])]; exact hx)) b1 b2 he (.fill (at_hole (by rw [hH N (by simp)]; exact hat)) (setsAt_one (by rw [hH N (by simp)]; exact hat))) hm' (AL.nil ⟨rfl, rfl, rfl⟩)) rfl (by first | rfl | exact hh) k
theorem R_build {F : List Dl → (Nat → AV) → List Ob → Prop} {acc : List Dl} (hw : wantedA n T ops o = true) (hd : o.dst = some d) (t : TypeId) (parts : Array (Nat × Operand)) (ho : o.op = .build t parts) {fs : Array Field} (hu : P.underlying t = some (.struct fs)) {z : Value} {size bytes : Nat} (hI : (P.info? t).map (fun i => (i.zero, i.size, i.bytes)) = some (some z, size, bytes)) (places : List (Nat × Nat)) (hp : fs.toList.map (fun f => (f.offset, (P.info? f.type).map (·.size))) = places.map (fun x => (x.1, some x.2))) {zs : List AV} (hz : (ofConst z).flat = some zs) {qs : List (Nat × List AV)} (hq : Parts n T parts.toList qs) {cs : List AV} (hf : fillA places zs qs = some cs) (k : RG P ops n F rest (acc ++ [⟨some d, (.agg cs), [], []⟩]) (pu T d (.agg cs)) heap) : RG P ops n F (o :: rest) acc T heap := by
  exact RG.cons hd.symm (fun T' h' hT hH hlen_ => A_build (by rw [wanted_eqA hT]; exact hw) hd t parts ho hu hI places hp hz (Parts.agree hT (fun y hy => by rw [ho]; simpa [Op.operands] using hy) hq) hf (AL.nil ⟨rfl, rfl, rfl⟩)) rfl (by first | rfl | exact hh) k
theorem R_get {F : List Dl → (Nat → AV) → List Ob → Prop} {acc : List Dl} (hw : wantedA n T ops o = true) (hd : o.dst = some d) (t : TypeId) (x : Operand) (f : Nat) (ho : o.op = .field t x f) {fs : Array Field} (hu : P.underlying t = some (.struct fs)) {fd : Field} (hf : fs[f]? = some fd) {ds : TypeDesc} (ha : (match ds with | .struct _ | .array _ _ => true | _ => false) = false) (hds : P.underlying fd.type = some ds) {m : Nat} (hm : fd.offset = m) {l : List AV} (hx : evA n T x = .agg l) {u : AV} (hc : l[m]? = some u) (k : RG P ops n F rest (acc ++ [⟨some d, u, [], []⟩]) (pu T d u) heap) : RG P ops n F (o :: rest) acc T heap := by
  exact RG.cons hd.symm (fun T' h' hT hH hlen_ => A_get (by rw [wanted_eqA hT]; exact hw) hd t x f ho hu hf ha hds hm (by rw [ev_eq hT (by simp [ho, Op.operands, Call.operands])]; exact hx) hc (AL.nil ⟨rfl, rfl, rfl⟩)) rfl (by first | rfl | exact hh) k
theorem R_get_agg {F : List Dl → (Nat → AV) → List Ob → Prop} {acc : List Dl} (hw : wantedA n T ops o = true) (hd : o.dst = some d) (t : TypeId) (x : Operand) (f : Nat) (ho : o.op = .field t x f) {fs : Array Field} (hu : P.underlying t = some (.struct fs)) {fd : Field} (hf : fs[f]? = some fd) {ds : TypeDesc} (ha : (match ds with | .struct _ | .array _ _ => true | _ => false) = true) (hds : P.underlying fd.type = some ds) {z : Option Value} {size bytes : Nat} (hI : (P.info? fd.type).map (fun i => (i.zero, i.size, i.bytes)) = some (z, size, bytes)) {m : Nat} (hm : fd.offset = m) {l : List AV} (hx : evA n T x = .agg l) {us' : List AV} (hc : (l.drop m).take size = us') (k : RG P ops n F rest (acc ++ [⟨some d, (.agg us'), [], []⟩]) (pu T d (.agg us')) heap) : RG P ops n F (o :: rest) acc T heap := by
  exact RG.cons hd.symm (fun T' h' hT hH hlen_ => A_get_agg (by rw [wanted_eqA hT]; exact hw) hd t x f ho hu hf ha hds hI hm (by rw [ev_eq hT (by simp [ho, Op.operands, Call.operands])]; exact hx) hc (AL.nil ⟨rfl, rfl, rfl⟩)) rfl (by first | rfl | exact hh) k
theorem R_extract {F : List Dl → (Nat → AV) → List Ob → Prop} {acc : List Dl} (hw : wantedA n T ops o = true) (hd : o.dst = some d) (x : Operand) (f : Nat) (ho : o.op = .extract x f) {l : List AV} (hx : evA n T x = .tup l) {u : AV} (hc : l[f]? = some u) (k : RG P ops n F rest (acc ++ [⟨some d, u, [], []⟩]) (pu T d u) heap) : RG P ops n F (o :: rest) acc T heap := by
  exact RG.cons hd.symm (fun T' h' hT hH hlen_ => A_extract (by rw [wanted_eqA hT]; exact hw) hd x f ho (by rw [ev_eq hT (by simp [ho, Op.operands, Call.operands])]; exact hx) hc (AL.nil ⟨rfl, rfl, rfl⟩)) rfl (by first | rfl | exact hh) k
theorem R_cut {F : List Dl → (Nat → AV) → List Ob → Prop} {acc : List Dl} (hw : wantedA n T ops o = true) (hd : o.dst = some d) (t : TypeId) (x : Operand) (lo hi : Option Operand) (ho : o.op = .slice t x lo hi none) {e : TypeId} (ht : P.underlying t = some (.slice e)) {z : Option Value} {size bytes : Nat} (hI : (P.info? e).map (fun i => (i.zero, i.size, i.bytes)) = some (z, size, bytes)) {els : List (List Tr)} (hx : evA n T x = .ln els) (hs : ∀ cs ∈ els, cs.length = size) {m l h : Nat} (hm : els.length = m) (hl : Bd n T lo 0 l) (hh : Bd n T hi m h) (h1 : l ≤ h) (h2 : h ≤ m) {els' : List (List Tr)} (he : (els.drop l).take (h - l) = els') (k : RG P ops n F rest (acc ++ [⟨some d, (.ln els'), [], []⟩]) (pu T d (.ln els')) heap) : RG P ops n F (o :: rest) acc T heap := by
  exact RG.cons hd.symm (fun T' h' hT hH hlen_ => A_cut (by rw [wanted_eqA hT]; exact hw) hd t x lo hi ho ht hI (by rw [ev_eq hT (by simp [ho, Op.operands, Call.operands])]; exact hx) hs hm (Bd.agree hT (fun y hy => by rw [ho]; simp [Op.operands, hy]) hl) (Bd.agree hT (fun y hy => by rw [ho]; simp [Op.operands, hy]) hh) h1 h2 he (AL.nil ⟨rfl, rfl, rfl⟩)) rfl (by first | rfl | exact hh) k
theorem R_cut_t {F : List Dl → (Nat → AV) → List Ob → Prop} {acc : List Dl} (hw : wantedA n T ops o = true) (hd : o.dst = some d) (t : TypeId) (x : Operand) (lo hi : Option Operand) (ho : o.op = .slice t x lo hi none) {e : TypeId} (ht : P.underlying t = some (.slice e)) {z : Option Value} {size bytes : Nat} (hI : (P.info? e).map (fun i => (i.zero, i.size, i.bytes)) = some (z, size, bytes)) {els : List (List Tr)} (hx : evA n T x = .t (.lst els)) (hs : ∀ cs ∈ els, cs.length = size) {m l h : Nat} (hm : els.length = m) (hl : Bd n T lo 0 l) (hh : Bd n T hi m h) (h1 : l ≤ h) (h2 : h ≤ m) {els' : List (List Tr)} (he : (els.drop l).take (h - l) = els') (k : RG P ops n F rest (acc ++ [⟨some d, (.t (.lst els')), [], []⟩]) (pu T d (.t (.lst els'))) heap) : RG P ops n F (o :: rest) acc T heap := by
  exact RG.cons hd.symm (fun T' h' hT hH hlen_ => A_cut_t (by rw [wanted_eqA hT]; exact hw) hd t x lo hi ho ht hI (by rw [ev_eq hT (by simp [ho, Op.operands, Call.operands])]; exact hx) hs hm (Bd.agree hT (fun y hy => by rw [ho]; simp [Op.operands, hy]) hl) (Bd.agree hT (fun y hy => by rw [ho]; simp [Op.operands, hy]) hh) h1 h2 he (AL.nil ⟨rfl, rfl, rfl⟩)) rfl (by first | rfl | exact hh) k
theorem R_cut_hi {F : List Dl → (Nat → AV) → List Ob → Prop} {acc : List Dl} (hw : wantedA n T ops o = true) (hd : o.dst = some d) (t : TypeId) (x : Operand) (hi : Option Operand) (ho : o.op = .slice t x none hi none) {e : TypeId} (ht : P.underlying t = some (.slice e)) {z : Option Value} {size bytes : Nat} (hI : (P.info? e).map (fun i => (i.zero, i.size, i.bytes)) = some (z, size, bytes)) {i k' m h : Nat} (hx : evA n T x = .sl i k' m) (hh : Bd n T hi m h) (h2 : h ≤ m) (k : RG P ops n F rest (acc ++ [⟨some d, (.sl i k' h), [], []⟩]) (pu T d (.sl i k' h)) heap) : RG P ops n F (o :: rest) acc T heap := by
  exact RG.cons hd.symm (fun T' h' hT hH hlen_ => A_cut_hi (by rw [wanted_eqA hT]; exact hw) hd t x hi ho ht hI (by rw [ev_eq hT (by simp [ho, Op.operands, Call.operands])]; exact hx) (Bd.agree hT (fun y hy => by rw [ho]; simp [Op.operands, hy]) hh) h2 (AL.nil ⟨rfl, rfl, rfl⟩)) rfl (by first | rfl | exact hh) k
theorem R_cut_sub {F : List Dl → (Nat → AV) → List Ob → Prop} {acc : List Dl} (hw : wantedA n T ops o = true) (hd : o.dst = some d) (t : TypeId) (x : Operand) (lo hi : Option Operand) (ho : o.op = .slice t x lo hi none) {e : TypeId} (ht : P.underlying t = some (.slice e)) {z : Option Value} {size bytes : Nat} (hI : (P.info? e).map (fun i => (i.zero, i.size, i.bytes)) = some (z, size, bytes)) {i k' m l h : Nat} (hx : evA n T x = .sl i k' m) {E : TypeId} {els : List (List Tr)} (hi' : heap[i]? = some (.row k' E size els)) (hl : Bd n T lo 0 l) (hh : Bd n T hi m h) (h1 : l ≤ h) (h2 : h ≤ m) {q : Nat} (hq : h - l = q) (k : RG P ops n F rest (acc ++ [⟨some d, (.sub i k' l q), [], [i]⟩]) (pu T d (.sub i k' l q)) heap) : RG P ops n F (o :: rest) acc T heap := by
  exact RG.cons hd.symm (fun T' h' hT hH hlen_ => A_cut_sub (by rw [wanted_eqA hT]; exact hw) hd t x lo hi ho ht hI (by rw [ev_eq hT (by simp [ho, Op.operands, Call.operands])]; exact hx) (by rw [hH i (by simp)]; exact hi') (Bd.agree hT (fun y hy => by rw [ho]; simp [Op.operands, hy]) hl) (Bd.agree hT (fun y hy => by rw [ho]; simp [Op.operands, hy]) hh) h1 h2 hq (AL.nil ⟨rfl, rfl, rfl⟩)) rfl (by first | rfl | exact hh) k
theorem R_add {F : List Dl → (Nat → AV) → List Ob → Prop} {acc : List Dl} (hw : wantedA n T ops o = true) (hd : o.dst = some d) (xt yt : TypeId) (x y : Operand) (ho : o.op = .binOp .add xt x y yt) {k : IntKind} {a b : Int} (hx : evA n T x = .t (.v (.int k a))) (hy : evA n T y = .t (.v (.int k b))) {c : Int} (hc : k.wrap (a + b) = c) (k' : RG P ops n F rest (acc ++ [⟨some d, (.t (.v (.int k c))), [], []⟩]) (pu T d (.t (.v (.int k c)))) heap) : RG P ops n F (o :: rest) acc T heap := by
  exact RG.cons hd.symm (fun T' h' hT hH hlen_ => A_add (by rw [wanted_eqA hT]; exact hw) hd xt yt x y ho (by rw [ev_eq hT (by simp [ho, Op.operands, Call.operands])]; exact hx) (by rw [ev_eq hT (by simp [ho, Op.operands, Call.operands])]; exact hy) hc (AL.nil ⟨rfl, rfl, rfl⟩)) rfl (by first | rfl | exact hh) k'
theorem R_sub {F : List Dl → (Nat → AV) → List Ob → Prop} {acc : List Dl} (hw : wantedA n T ops o = true) (hd : o.dst = some d) (xt yt : TypeId) (x y : Operand) (ho : o.op = .binOp .sub xt x y yt) {k : IntKind} {a b : Int} (hx : evA n T x = .t (.v (.int k a))) (hy : evA n T y = .t (.v (.int k b))) {c : Int} (hc : k.wrap (a - b) = c) (k' : RG P ops n F rest (acc ++ [⟨some d, (.t (.v (.int k c))), [], []⟩]) (pu T d (.t (.v (.int k c)))) heap) : RG P ops n F (o :: rest) acc T heap := by
  exact RG.cons hd.symm (fun T' h' hT hH hlen_ => A_sub (by rw [wanted_eqA hT]; exact hw) hd xt yt x y ho (by rw [ev_eq hT (by simp [ho, Op.operands, Call.operands])]; exact hx) (by rw [ev_eq hT (by simp [ho, Op.operands, Call.operands])]; exact hy) hc (AL.nil ⟨rfl, rfl, rfl⟩)) rfl (by first | rfl | exact hh) k'
theorem R_mul {F : List Dl → (Nat → AV) → List Ob → Prop} {acc : List Dl} (hw : wantedA n T ops o = true) (hd : o.dst = some d) (xt yt : TypeId) (x y : Operand) (ho : o.op = .binOp .mul xt x y yt) {k : IntKind} {a b : Int} (hx : evA n T x = .t (.v (.int k a))) (hy : evA n T y = .t (.v (.int k b))) {c : Int} (hc : k.wrap (a * b) = c) (k' : RG P ops n F rest (acc ++ [⟨some d, (.t (.v (.int k c))), [], []⟩]) (pu T d (.t (.v (.int k c)))) heap) : RG P ops n F (o :: rest) acc T heap := by
  exact RG.cons hd.symm (fun T' h' hT hH hlen_ => A_mul (by rw [wanted_eqA hT]; exact hw) hd xt yt x y ho (by rw [ev_eq hT (by simp [ho, Op.operands, Call.operands])]; exact hx) (by rw [ev_eq hT (by simp [ho, Op.operands, Call.operands])]; exact hy) hc (AL.nil ⟨rfl, rfl, rfl⟩)) rfl (by first | rfl | exact hh) k'
theorem R_quo {F : List Dl → (Nat → AV) → List Ob → Prop} {acc : List Dl} (hw : wantedA n T ops o = true) (hd : o.dst = some d) (xt yt : TypeId) (x y : Operand) (ho : o.op = .binOp .quo xt x y yt) {k : IntKind} {a b : Int} (hx : evA n T x = .t (.v (.int k a))) (hy : evA n T y = .t (.v (.int k b))) (hb : b ≠ 0) {c : Int} (hc : k.wrap (a.tdiv b) = c) (k' : RG P ops n F rest (acc ++ [⟨some d, (.t (.v (.int k c))), [], []⟩]) (pu T d (.t (.v (.int k c)))) heap) : RG P ops n F (o :: rest) acc T heap := by
  exact RG.cons hd.symm (fun T' h' hT hH hlen_ => A_quo (by rw [wanted_eqA hT]; exact hw) hd xt yt x y ho (by rw [ev_eq hT (by simp [ho, Op.operands, Call.operands])]; exact hx) (by rw [ev_eq hT (by simp [ho, Op.operands, Call.operands])]; exact hy) hb hc (AL.nil ⟨rfl, rfl, rfl⟩)) rfl (by first | rfl | exact hh) k'
theorem R_rem {F : List Dl → (Nat → AV) → List Ob → Prop} {acc : List Dl} (hw : wantedA n T ops o = true) (hd : o.dst = some d) (xt yt : TypeId) (x y : Operand) (ho : o.op = .binOp .rem xt x y yt) {k : IntKind} {a b : Int} (hx : evA n T x = .t (.v (.int k a))) (hy : evA n T y = .t (.v (.int k b))) (hb : b ≠ 0) {c : Int} (hc : a.tmod b = c) (k' : RG P ops n F rest (acc ++ [⟨some d, (.t (.v (.int k c))), [], []⟩]) (pu T d (.t (.v (.int k c)))) heap) : RG P ops n F (o :: rest) acc T heap := by
  exact RG.cons hd.symm (fun T' h' hT hH hlen_ => A_rem (by rw [wanted_eqA hT]; exact hw) hd xt yt x y ho (by rw [ev_eq hT (by simp [ho, Op.operands, Call.operands])]; exact hx) (by rw [ev_eq hT (by simp [ho, Op.operands, Call.operands])]; exact hy) hb hc (AL.nil ⟨rfl, rfl, rfl⟩)) rfl (by first | rfl | exact hh) k'
theorem R_cmp {F : List Dl → (Nat → AV) → List Ob → Prop} {acc : List Dl} (hw : wantedA n T ops o = true) (hd : o.dst = some d) (op : BinOp) (xt yt : TypeId) (x y : Operand) (ho : o.op = .binOp op xt x y yt) {k : IntKind} {a b : Int} (hx : evA n T x = .t (.v (.int k a))) (hy : evA n T y = .t (.v (.int k b))) {c : Bool} (hc : cmpR op a b = some c) (k' : RG P ops n F rest (acc ++ [⟨some d, (.t (.v (.bool c))), [], []⟩]) (pu T d (.t (.v (.bool c)))) heap) : RG P ops n F (o :: rest) acc T heap := by
  exact RG.cons hd.symm (fun T' h' hT hH hlen_ => A_cmp (by rw [wanted_eqA hT]; exact hw) hd op xt yt x y ho (by rw [ev_eq hT (by simp [ho, Op.operands, Call.operands])]; exact hx) (by rw [ev_eq hT (by simp [ho, Op.operands, Call.operands])]; exact hy) hc (AL.nil ⟨rfl, rfl, rfl⟩)) rfl (by first | rfl | exact hh) k'
theorem R_beq {F : List Dl → (Nat → AV) → List Ob → Prop} {acc : List Dl} (hw : wantedA n T ops o = true) (hd : o.dst = some d) (xt yt : TypeId) (x y : Operand) (ho : o.op = .binOp .eql xt x y yt) (ht : P.underlying xt = some .bool) {a b : Bool} (hx : evA n T x = .t (.v (.bool a))) (hy : evA n T y = .t (.v (.bool b))) (k' : RG P ops n F rest (acc ++ [⟨some d, (.t (.v (.bool (a == b)))), [], []⟩]) (pu T d (.t (.v (.bool (a == b))))) heap) : RG P ops n F (o :: rest) acc T heap := by
  exact RG.cons hd.symm (fun T' h' hT hH hlen_ => A_beq (by rw [wanted_eqA hT]; exact hw) hd xt yt x y ho ht (by rw [ev_eq hT (by simp [ho, Op.operands, Call.operands])]; exact hx) (by rw [ev_eq hT (by simp [ho, Op.operands, Call.operands])]; exact hy) (AL.nil ⟨rfl, rfl, rfl⟩)) rfl (by first | rfl | exact hh) k'
theorem R_bne {F : List Dl → (Nat → AV) → List Ob → Prop} {acc : List Dl} (hw : wantedA n T ops o = true) (hd : o.dst = some d) (xt yt : TypeId) (x y : Operand) (ho : o.op = .binOp .neq xt x y yt) (ht : P.underlying xt = some .bool) {a b : Bool} (hx : evA n T x = .t (.v (.bool a))) (hy : evA n T y = .t (.v (.bool b))) (k' : RG P ops n F rest (acc ++ [⟨some d, (.t (.v (.bool (!(a == b))))), [], []⟩]) (pu T d (.t (.v (.bool (!(a == b)))))) heap) : RG P ops n F (o :: rest) acc T heap := by
  exact RG.cons hd.symm (fun T' h' hT hH hlen_ => A_bne (by rw [wanted_eqA hT]; exact hw) hd xt yt x y ho ht (by rw [ev_eq hT (by simp [ho, Op.operands, Call.operands])]; exact hx) (by rw [ev_eq hT (by simp [ho, Op.operands, Call.operands])]; exact hy) (AL.nil ⟨rfl, rfl, rfl⟩)) rfl (by first | rfl | exact hh) k'
theorem R_not {F : List Dl → (Nat → AV) → List Ob → Prop} {acc : List Dl} (hw : wantedA n T ops o = true) (hd : o.dst = some d) (xt : TypeId) (x : Operand) (ho : o.op = .unOp .not xt x) {a : Bool} (hx : evA n T x = .t (.v (.bool a))) (k' : RG P ops n F rest (acc ++ [⟨some d, (.t (.v (.bool (!a)))), [], []⟩]) (pu T d (.t (.v (.bool (!a))))) heap) : RG P ops n F (o :: rest) acc T heap := by
  exact RG.cons hd.symm (fun T' h' hT hH hlen_ => A_not (by rw [wanted_eqA hT]; exact hw) hd xt x ho (by rw [ev_eq hT (by simp [ho, Op.operands, Call.operands])]; exact hx) (AL.nil ⟨rfl, rfl, rfl⟩)) rfl (by first | rfl | exact hh) k'
theorem R_neg {F : List Dl → (Nat → AV) → List Ob → Prop} {acc : List Dl} (hw : wantedA n T ops o = true) (hd : o.dst = some d) (xt : TypeId) (x : Operand) (ho : o.op = .unOp .neg xt x) {k : IntKind} {a : Int} (hx : evA n T x = .t (.v (.int k a))) {c : Int} (hc : k.wrap (0 - a) = c) (k' : RG P ops n F rest (acc ++ [⟨some d, (.t (.v (.int k c))), [], []⟩]) (pu T d (.t (.v (.int k c)))) heap) : RG P ops n F (o :: rest) acc T heap := by
  exact RG.cons hd.symm (fun T' h' hT hH hlen_ => A_neg (by rw [wanted_eqA hT]; exact hw) hd xt x ho (by rw [ev_eq hT (by simp [ho, Op.operands, Call.operands])]; exact hx) hc (AL.nil ⟨rfl, rfl, rfl⟩)) rfl (by first | rfl | exact hh) k'
theorem R_conv {F : List Dl → (Nat → AV) → List Ob → Prop} {acc : List Dl} (hw : wantedA n T ops o = true) (hd : o.dst = some d) (s t : TypeId) (x : Operand) (ho : o.op = .convert s t x) {ds : TypeDesc} (hs : P.underlying s = some ds) {kd : IntKind} (ht : P.underlying t = some (.int kd)) {k : IntKind} {a : Int} (hx : evA n T x = .t (.v (.int k a))) {c : Int} (hc : kd.wrap a = c) (k' : RG P ops n F rest (acc ++ [⟨some d, (.t (.v (.int kd c))), [], []⟩]) (pu T d (.t (.v (.int kd c)))) heap) : RG P ops n F (o :: rest) acc T heap := by
  exact RG.cons hd.symm (fun T' h' hT hH hlen_ => A_conv (by rw [wanted_eqA hT]; exact hw) hd s t x ho hs ht (by rw [ev_eq hT (by simp [ho, Op.operands, Call.operands])]; exact hx) hc (AL.nil ⟨rfl, rfl, rfl⟩)) rfl (by first | rfl | exact hh) k'
theorem R_max {F : List Dl → (Nat → AV) → List Ob → Prop} {acc : List Dl} (hw : wantedA n T ops o = true) (hd : o.dst = some d) (tys : Array TypeId) (x y : Operand) (ho : o.op = .call { callee := .builtin .max, args := #[x, y], argTypes := tys }) {k k2 : IntKind} {a b : Int} (hx : evA n T x = .t (.v (.int k a))) (hy : evA n T y = .t (.v (.int k2 b))) (k' : RG P ops n F rest (acc ++ [⟨some d, (.t (.v (.int k (max a b)))), [], []⟩]) (pu T d (.t (.v (.int k (max a b))))) heap) : RG P ops n F (o :: rest) acc T heap := by
  exact RG.cons hd.symm (fun T' h' hT hH hlen_ => A_max (by rw [wanted_eqA hT]; exact hw) hd tys x y ho (by rw [ev_eq hT (by simp [ho, Op.operands, Call.operands])]; exact hx) (by rw [ev_eq hT (by simp [ho, Op.operands, Call.operands])]; exact hy) (AL.nil ⟨rfl, rfl, rfl⟩)) rfl (by first | rfl | exact hh) k'
theorem R_min {F : List Dl → (Nat → AV) → List Ob → Prop} {acc : List Dl} (hw : wantedA n T ops o = true) (hd : o.dst = some d) (tys : Array TypeId) (x y : Operand) (ho : o.op = .call { callee := .builtin .min, args := #[x, y], argTypes := tys }) {k k2 : IntKind} {a b : Int} (hx : evA n T x = .t (.v (.int k a))) (hy : evA n T y = .t (.v (.int k2 b))) (k' : RG P ops n F rest (acc ++ [⟨some d, (.t (.v (.int k (min a b)))), [], []⟩]) (pu T d (.t (.v (.int k (min a b))))) heap) : RG P ops n F (o :: rest) acc T heap := by
  exact RG.cons hd.symm (fun T' h' hT hH hlen_ => A_min (by rw [wanted_eqA hT]; exact hw) hd tys x y ho (by rw [ev_eq hT (by simp [ho, Op.operands, Call.operands])]; exact hx) (by rw [ev_eq hT (by simp [ho, Op.operands, Call.operands])]; exact hy) (AL.nil ⟨rfl, rfl, rfl⟩)) rfl (by first | rfl | exact hh) k'
theorem R_lit0 {F : List Dl → (Nat → AV) → List Ob → Prop} {acc : List Dl} (hw : wantedA n T ops o = true) (hd : o.dst = some d) (t : TypeId) (ho : o.op = .buildSlice t 0 #[]) {e : TypeId} (ht : P.underlying t = some (.slice e)) {z : Option Value} {size bytes : Nat} (hI : (P.info? e).map (fun i => (i.zero, i.size, i.bytes)) = some (z, size, bytes)) (k : RG P ops n F rest (acc ++ [⟨some d, .nl, [], []⟩]) (pu T d .nl) heap) : RG P ops n F (o :: rest) acc T heap := by
  exact RG.cons hd.symm (fun T' h' hT hH hlen_ => A_lit0 (by rw [wanted_eqA hT]; exact hw) hd t ho ht hI (AL.nil ⟨rfl, rfl, rfl⟩)) rfl (by first | rfl | exact hh) k
theorem R_lit {F : List Dl → (Nat → AV) → List Ob → Prop} {acc : List Dl} (hw : wantedA n T ops o = true) (hd : o.dst = some d) (t : TypeId) (len : Nat) (parts : Array (Nat × Operand)) (ho : o.op = .buildSlice t len parts) {e : TypeId} (ht : P.underlying t = some (.slice e)) {z : Value} {size bytes : Nat} (hI : (P.info? e).map (fun i => (i.zero, i.size, i.bytes)) = some (some z, size, bytes)) {qs : List (Nat × List AV)} (hq : Parts n T parts.toList qs) {els : List (List Tr)} (he : litA size 0 qs = some els) {els' : List (List Tr)} (he' : els = els') (hlen : els'.length = len) (h0 : len * size ≠ 0) (hm : len * size ≤ 16777216) (hn : len ≤ 16777216) {heap' : List Ob} {N : Nat} (hat : heap[N]? = some .hole) (hh : heap.set N (.row 0 e size els') = heap') (k : RG P ops n F rest (acc ++ [⟨some d, (.sl N 0 len), [(N, .row 0 e size els')], [N]⟩]) (pu T d (.sl N 0 len)) heap') : RG P ops n F (o :: rest) acc T heap := by
  exact RG.cons hd.symm (fun T' h' hT hH hlen_ => A_lit (by rw [wanted_eqA hT]; exact hw) hd t len parts ho ht hI (Parts.agree hT (fun y hy => by rw [ho]; simpa [Op.operands] using hy) hq) he he' hlen h0 hm hn (.fill (at_hole (by rw [hH N (by simp)]; exact hat)) (setsAt_one (by rw [hH N (by simp)]; exact hat))) (AL.nil ⟨rfl, rfl, rfl⟩)) rfl (by first | rfl | exact hh) k
theorem R_fn {F : List Dl → (Nat → AV) → List Ob → Prop} {acc : List Dl} (hw : wantedA n T ops o = true) (hd : o.dst = some d) (f : Fn) (first cap : Array Operand) (ho : o.op = .makeFunc f first cap) {us vs : List AV} (hf : Args n T first.toList us) (hc : Args n T cap.toList vs) (k : RG P ops n F rest (acc ++ [⟨some d, (.fn f us vs), [], []⟩]) (pu T d (.fn f us vs)) heap) : RG P ops n F (o :: rest) acc T heap := by
  exact RG.cons hd.symm (fun T' h' hT hH hlen_ => A_fn (by rw [wanted_eqA hT]; exact hw) hd f first cap ho (Args.agree hT (fun y hy => by rw [ho]; simp [Op.operands]; simp at hy; simp [hy]) hf) (Args.agree hT (fun y hy => by rw [ho]; simp [Op.operands]; simp at hy; simp [hy]) hc) (AL.nil ⟨rfl, rfl, rfl⟩)) rfl (by first | rfl | exact hh) k
theorem R_pick {F : List Dl → (Nat → AV) → List Ob → Prop} {acc : List Dl} (hw : wantedA n T ops o = true) (hd : o.dst = some d) (c x y : Operand) (ho : o.op = .pick c x y) {b : Bool} (hc : evA n T c = .t (.v (.bool b))) {u v : AV} (hx : evA n T x = u) (hy : evA n T y = v) {r : AV} (hr : (bif b then u else v) = r) (k : RG P ops n F rest (acc ++ [⟨some d, r, [], []⟩]) (pu T d r) heap) : RG P ops n F (o :: rest) acc T heap := by
  exact RG.cons hd.symm (fun T' h' hT hH hlen_ => A_pick (by rw [wanted_eqA hT]; exact hw) hd c x y ho (by rw [ev_eq hT (by simp [ho, Op.operands, Call.operands])]; exact hc) (by rw [ev_eq hT (by simp [ho, Op.operands, Call.operands])]; exact hx) (by rw [ev_eq hT (by simp [ho, Op.operands, Call.operands])]; exact hy) hr (AL.nil ⟨rfl, rfl, rfl⟩)) rfl (by first | rfl | exact hh) k
end
end Go.Proofs.Ytmljglphegeilaa

namespace Go.Proofs.Ytmljglphegeilaa
set_option linter.unusedVariables false
set_option linter.unusedSimpArgs false
set_option linter.unnecessarySimpa false
open Go.RowKit
section
variable {P : Program} {Q : QS} {K : (Nat → AV) → List Ob → Prop} {n : Fr} {T : Nat → AV} {heap : List Ob} {id i : Nat} {fn : Func} {R : AV → List Ob → Prop}
theorem thenQ_n (h : K T heap) : thenQ K Q .normal T heap := h
theorem thenQ_r (h : Q .ret T heap) : thenQ K Q .ret T heap := h
theorem thenQ_e (h : Q (.exit i) T heap) : thenQ K Q (.exit i) T heap := h
theorem blockQ_n (h : Q .normal T heap) : blockQ id Q .normal T heap := h
theorem blockQ_r (h : Q .ret T heap) : blockQ id Q .ret T heap := h
theorem blockQ_e0 (h : Q .normal T heap) : blockQ id Q (.exit id) T heap := by
  show (bif Nat.beq id id then Q .normal T heap else _)
  rw [Nat.beq_refl]; exact h
theorem blockQ_e1 (hb : Nat.beq i id = false) (h : Q (.exit i) T heap) : blockQ id Q (.exit i) T heap := by
  show (bif Nat.beq i id then _ else Q (.exit i) T heap)
  rw [hb]; exact h
theorem retQ_r (h : Fin P fn R n T heap) : retQ P fn R n .ret T heap := h
theorem retQ_n (h : Fin P fn R n T heap) : retQ P fn R n .normal T heap := h
theorem AW.at_region (id : Nat) {l : List Oper} (h : AL P l.toArray Q l n T heap) : AW P (.region id l.toArray false) Q n T heap := AW.region h
theorem AW.at_draw (id : Nat) {l : List Oper} (hm : P.follows .mixedOrders = true) (m : Nat) (A : List (List Nat)) {h1 : List Ob} (hh : heap ++ List.replicate m .hole = h1) (hr : RG P l.toArray n (fun Ds T2 h2 => chkD l A (W_ Ds) = true ∧ Q .normal T2 h2) l [] T h1) : AW P (.region id l.toArray true) Q n T heap := by
  obtain ⟨Ds, T2, h2, h3, h4, h5⟩ := hr
  exact AW.draw hm m hh h3 A h4 h5
end
theorem map_get {α β : Type} {l : List α} {f : α → β} {k : Nat} {x : α} (h : l[k]? = some x) : (l.map f)[k]? = some (f x) := by rw [List.getElem?_map, h]; rfl
theorem each_map {α : Type} {l : List α} {f : α → List Tr} {s : Nat} (h : ∀ x, (f x).length = s) : ∀ cs ∈ l.map f, cs.length = s := fun cs hc => by
  obtain ⟨x, _, rfl⟩ := List.mem_map.1 hc; exact h x
theorem map_set {α : Type} {l : List α} {f : α → List Tr} {i : Nat} {x : α} : (l.map f).set i (f x) = (l.set i x).map f := by rw [List.map_set]
theorem app_map {α : Type} {l l' : List α} {f : α → List Tr} {m : Nat} (h : m = l.length) : (l.map f).take m ++ l'.map f = (l ++ l').map f := by
  subst h; rw [List.map_append, List.take_of_length_le (by simp)]
theorem app_one {α : Type} {l : List α} {f : α → List Tr} {m : Nat} {x : α} (h : m = l.length) : (l.map f).take m ++ [f x] = (l ++ [x]).map f := by
  subst h; rw [List.map_append, List.take_of_length_le (by simp)]; rfl
def Cd (P : Program) (f : FuncId) (args : List AV) (r : AV) (L : List Ob) : Prop := C P f args [] (fun r' L' => r' = r ∧ L' = L)
theorem Cd.enter {P : Program} {f : FuncId} {fn : Func} {c : Code} (hf : P.funcs[f]? = some fn) (hb : fn.body = some c) {args : List AV} {r : AV} {L : List Ob} {N : Nat} (hN : max args.length fn.ntmps = N) (h : AW P c (retQ P fn (fun r' L' => r' = r ∧ L' = L) ⟨N, 0⟩) ⟨N, 0⟩ (argT args) []) : Cd P f args r L :=
  C.enter hf hb hN h
theorem Cd.enter' {P : Program} {f : FuncId} {fn : Func} {c : Code} (hf : P.funcs[f]? = some fn) (hb : fn.body = some c) {args : List AV} {r : AV} {L : List Ob} {N : Nat} (hn : fn.ntmps = N) (hle : Nat.ble args.length N = true) (h : AW P c (retQ P fn (fun r' L' => r' = r ∧ L' = L) ⟨N, 0⟩) ⟨N, 0⟩ (argT args) []) : Cd P f args r L :=
  C.enter hf hb (by rw [hn]; exact Nat.max_eq_right (Nat.le_of_ble_eq_true hle)) h
theorem C.enter' {P : Program} {f : FuncId} {fn : Func} {c : Code} (hf : P.funcs[f]? = some fn) (hb : fn.body = some c) {args : List AV} {H : List Ob} {R : AV → List Ob → Prop} {N : Nat} (hn : fn.ntmps = N) (hle : Nat.ble args.length N = true) {M : Nat} (hM : H.length = M) (h : AW P c (retQ P fn R ⟨N, M⟩) ⟨N, M⟩ (argT args) H) : C P f args H R := by
  subst hM
  exact C.enter hf hb (by rw [hn]; exact Nat.max_eq_right (Nat.le_of_ble_eq_true hle)) h
theorem take_drop_map {α : Type} {f : α → List Tr} {l : List α} {off m : Nat} (h : l.length ≤ off + m) : ((l.map f).drop off).take m = (l.drop off).map f := by
  rw [← List.map_drop, List.take_of_length_le (by simp; omega)]
theorem take_drop_map' {α : Type} {f : α → List Tr} {l : List α} {off m : Nat} : ((l.map f).drop off).take m = ((l.drop off).take m).map f := by
  rw [← List.map_drop, ← List.map_take]
theorem Pass.subE {heap : List Ob} {sel : List Nat} {i k off m : Nat} {E : TypeId} {s : Nat} {els els' : List (List Tr)} (hi : heap[i]? = some (.row k E s els)) (hn : sel.contains i = false) (he : (els.drop off).take m = els') (hm : off + m ≤ els.length) : Pass heap sel (.sub i k off m) (.ln els') := by
  subst he
  exact .sub hi hn hm
theorem Pass.ownE {heap : List Ob} {sel : List Nat} {i k m : Nat} {E : TypeId} {s : Nat} {α : Type} {f : α → List Tr} {l : List α} (hi : heap[i]? = some (.row k E s (l.map f))) (hn : sel.contains i = false) (hm : m ≤ l.length) : Pass heap sel (.sl i k m) (.ln ((l.take m).map f)) := by
  rw [List.map_take]
  exact .own hi hn (by simpa using hm)
theorem get_D {α : Type} {l : List α} {i : Nat} {x : α} (h : i < l.length) : l[i]? = some (l.getD i x) := by
  rw [List.getD_eq_getElem?_getD, List.getElem?_eq_getElem h]; rfl
theorem AW.loopP {P : Program} {Q : QS} {n : Fr} {T : Nat → AV} {heap : List Ob} {c : Code} {ι : Type} (I : ι → Prop) (S : ι → Nat → AV) (H : ι → List Ob) (m : ι → Nat) (i0 : ι) (hi : I i0) (h0 : Wk n T heap (S i0) (H i0))
    (hr : ∀ i, I i → AW P c (thenQ (fun T' h' => ∃ j, I j ∧ m j < m i ∧ Wk n T' h' (S j) (H j)) Q) n (S i) (H i)) : AW P (.loop c) Q n T heap :=
  AW.loop (ι := {i : ι // I i}) (fun i => S i.1) (fun i => H i.1) (fun i => m i.1) ⟨i0, hi⟩ h0 fun i => by
    have := hr i.1 i.2
    intro e a w hR b k cs
    obtain ⟨ex, a', w', h1, h2⟩ := this e a w hR b k cs
    refine ⟨ex, a', w', ?_, h2⟩
    obtain ⟨T', h', q1, q2⟩ := h1
    refine ⟨T', h', ?_, q2⟩
    cases ex <;> first | exact q1 | (obtain ⟨j, j1, j2, j3⟩ := q1; exact ⟨⟨j, j1⟩, j2, j3⟩)
theorem all_eq {α : Type} {a b : List α} {z : α} (hl : a.length = b.length) (h : ∀ j, j < a.length → a.getD j z = b.getD j z) : a = b := by
  apply List.ext_getElem?
  intro j
  by_cases hj : j < a.length
  · rw [get_D (x := z) hj, get_D (x := z) (by omega), h j hj]
  · rw [List.getElem?_eq_none (by omega), List.getElem?_eq_none (by omega)]
def idsF : Nat → AV → List Nat
  | 0, _ => []
  | k + 1, x => match x with
    | .sl i _ _ => [i]
    | .sub i _ _ _ => [i]
    | .ptr i _ => [i]
    | .mv i => [i]
    | .cl _ => []
    | .rp i _ _ _ => [i]
    | .fn _ a b => a.flatMap (idsF k) ++ b.flatMap (idsF k)
    | .agg l => l.flatMap (idsF k)
    | .tup l => l.flatMap (idsF k)
    | .lp l => l.flatMap (idsF k)
    | _ => []
def idsVs (l : List AV) : List Nat := l.flatMap (idsF 5)
def boxCs : Option Ob → List AV
  | some (.box _ cs) => cs
  | _ => []
def deep (heap : List Ob) : Nat → List Nat → List Nat
  | 0, l => l
  | k + 1, l => l ++ deep heap k (l.flatMap fun i => idsVs (boxCs heap[i]?))
def isHole : Option Ob → Bool
  | some .hole => true
  | _ => false
section
variable {P : Program} {ops : Array Oper} {Q : QS} {rest : List Oper} {o : Oper} {n : Fr} {T : Nat → AV} {heap : List Ob} {d : Nat}
theorem AL.split (d : Nat) {b : Bool} (hd : evA n T (.tmp d) = .t (.v (.bool b))) (ht : b = true → AL P ops Q rest n (pu T d (.t (.v (.bool true)))) heap) (hf : b = false → AL P ops Q rest n (pu T d (.t (.v (.bool false)))) heap) : AL P ops Q rest n T heap := by
  rintro e a w ⟨ρ, Z, Y, hR⟩
  have hv := hR.eval (.tmp d)
  rw [hd] at hv
  have key : ∀ (t : Nat) (v : Value), a.tmps[t]? = some v → Val (Kn heap) ρ w Z Y (pu T d (.t (.v (.bool b))) t) v := fun t v hx => by
    by_cases e : t = d
    · subst e
      have e2 : a.eval (.tmp t) = v := by simp only [Act.eval, Array.getD_eq_getD_getElem?, hx, Option.getD_some]
      rw [e2] at hv
      simp only [pu, Nat.beq_refl, cond_true]
      exact hv
    · simp only [pu, beq_ne e, cond_false]
      exact hR.at_ t v hx
  cases b with
  | true => exact ht rfl e a w ⟨ρ, Z, Y, hR.ok, hR.defers, hR.n, hR.hl, key⟩
  | false => exact hf rfl e a w ⟨ρ, Z, Y, hR.ok, hR.defers, hR.n, hR.hl, key⟩
theorem A_calld (hw : wantedA n T ops o = true) (hd : o.dst = some d) {f : FuncId} {fn : Func} (hf : P.funcs[f]? = some fn) (hn : (fn.name == "runtime.NumGoroutine") = false) (hb : fn.body.isNone = false) {args : Array Operand} {tys : Array TypeId}
    (ho : o.op = .call { callee := .value (.func f), args := args, argTypes := tys }) {xs : List AV} {r : AV} {L : List Ob} (hc : Cd P f xs r L) (hp : PassL heap [] (args.toList.map (evA n T)) xs) {N : Nat} (hN : heap.length = N) {r' : AV} (hr : upA (shiftG N) r = r') {L' : List Ob} (hL : L.map (upO (shiftG N)) = L') {heap' : List Ob} (hh : heap ++ L' = heap')
    (k : AL P ops Q rest n (pu T d r') heap') : AL P ops Q (o :: rest) n T heap := by
  subst hr hL
  refine A_call hw hd hf hn hb ho hp hc N ?_
  rintro _ _ ⟨rfl, rfl⟩
  exact ⟨heap', .push hN hh, k⟩
theorem setAll_at : ∀ (L : List Ob) (heap : List Ob) (N : Nat), N + L.length ≤ heap.length → setAll heap ((L.zipIdx N).map (fun p => (p.2, p.1))) = setsAt heap N L
  | [], heap, N, _ => by simp [setAll, setsAt]
  | o :: L, heap, N, h => by
    simp only [List.length_cons] at h
    rw [List.zipIdx_cons, List.map_cons, setAll, setAll_at L _ (N + 1) (by simp; omega)]
    unfold setsAt
    simp only [List.length_cons]
    rw [List.drop_set_of_lt (by omega), List.take_set]
    have e1 : (heap.take (N + 1)).set N o = heap.take N ++ [o] := by
      rw [List.take_succ_eq_append_getElem (by omega), List.set_append_right _ _ (by simp; omega)]
      simp [Nat.min_eq_left (show N ≤ heap.length by omega)]
    rw [e1, show N + 1 + L.length = N + (L.length + 1) by omega]
    simp
theorem R_calld (hw : wantedA n T ops o = true) (hd : o.dst = some d) {f : FuncId} {fn : Func} (hf : P.funcs[f]? = some fn) (hn : (fn.name == "runtime.NumGoroutine") = false) (hb : fn.body.isNone = false) {args : Array Operand} {tys : Array TypeId}
    (ho : o.op = .call { callee := .value (.func f), args := args, argTypes := tys }) {xs : List AV} {r : AV} {L : List Ob} (hc : Cd P f xs r L) {acc : List Nat} (ha : deep heap 3 (idsVs (args.toList.map (evA n T))) = acc) (hp : ∀ h', (∀ i, acc.contains i = true → h'[i]? = heap[i]?) → PassL h' [] (args.toList.map (evA n T)) xs)
    (N : Nat) (hN : (L.zipIdx N).all (fun p => isHole heap[p.2]?) = true) {r' : AV} (hr : upA (shiftG N) r = r') {L' : List Ob} (hL : L.map (upO (shiftG N)) = L') {heap' : List Ob} (hh : setAll heap ((L'.zipIdx N).map (fun p => (p.2, p.1))) = heap')
    {F : List Dl → (Nat → AV) → List Ob → Prop} {ac : List Dl} (k : RG P ops n F rest (ac ++ [⟨some d, r', (L'.zipIdx N).map (fun p => (p.2, p.1)), (L'.zipIdx N).map (·.2) ++ acc⟩]) (pu T d r') heap') : RG P ops n F (o :: rest) ac T heap := by
  subst hr hL
  have hlk : ∀ x ∈ args.toList, x ∈ o.op.operands.toList := fun x hx => by rw [ho]; simp only [Op.operands, Call.operands, Array.toList_append]; exact List.mem_append_right _ hx
  have hole : ∀ q, q < L.length → heap[N + q]? = some .hole := fun q hq => by
    have := List.all_eq_true.1 hN (L[q], N + q) (List.mem_of_getElem? (i := q) (by rw [List.getElem?_zipIdx, List.getElem?_eq_getElem hq]; rfl))
    simp only at this
    cases hx : heap[N + q]? with
    | none => rw [hx] at this; cases this
    | some p => rw [hx] at this; cases p <;> first | rfl | (cases this; done)
  have hlen : ∀ h' : List Ob, h'.length = heap.length → (L.map (upO (shiftG N))) = [] ∨ N + (L.map (upO (shiftG N))).length ≤ h'.length := fun h' hl => by
    by_cases h0 : L.length = 0
    · exact .inl (by rw [List.eq_nil_of_length_eq_zero h0]; rfl)
    · have := get_lt (hole (L.length - 1) (by omega))
      exact .inr (by simp; omega)
  refine RG.cons (D := ⟨some d, _, ((L.map (upO (shiftG N))).zipIdx N).map (fun p => (p.2, p.1)), ((L.map (upO (shiftG N))).zipIdx N).map (·.2) ++ acc⟩) hd.symm (fun T' h' hT hH hl => ?_) rfl hh k
  have hargs : args.toList.map (evA n T') = args.toList.map (evA n T) := List.map_congr_left fun x hx => ev_eq hT (hlk x hx)
  refine A_call (by rw [wanted_eqA hT]; exact hw) hd hf hn hb ho (by rw [hargs]; exact hp h' fun i hi => hH i (List.mem_append_right _ (by simpa using hi))) hc N ?_
  rintro r1 L1 ⟨hr1, hL1⟩
  rw [hr1, hL1]
  refine ⟨setsAt h' N (L.map (upO (shiftG N))), .fill (fun q hq => ?_) rfl, AL.nil ⟨rfl, rfl, ?_⟩⟩
  · rw [hH (N + q) (List.mem_append_left _ ?_)]
    · exact hole q (by simpa using hq)
    · refine List.mem_map.2 ⟨((L.map (upO (shiftG N)))[q], N + q), List.mem_of_getElem? (i := q) ?_, rfl⟩
      rw [List.getElem?_zipIdx, List.getElem?_eq_getElem hq]; rfl
  · show _ = setAll h' _
    rcases hlen h' hl with h0 | h0
    · rw [h0]; simp [setAll, setsAt]
    · rw [setAll_at _ _ _ h0]
end
end Go.Proofs.Ytmljglphegeilaa

namespace Go.Proofs.Ytmljglphegeilaa
set_option linter.unusedVariables false
set_option linter.unusedSimpArgs false
set_option linter.unnecessarySimpa false
open Go.RowKit
def upK (g : Nat → Option Nat) : Nat → AV → AV
  | 0, _ => .any
  | k + 1, x => match x with
    | .t x => .t x
    | .nl => .nl
    | .sl i k n => match g i with | some j => .sl j k n | none => .any
    | .sub i k off n => match g i with | some j => .sub j k off n | none => .any
    | .ptr i off => match g i with | some j => .ptr j off | none => .any
    | .mv i => match g i with | some j => .mv j | none => .any
    | .cl els => .cl els
    | .rp i k idx off => match g i with | some j => .rp j k idx off | none => .any
    | .fn f a b => .fn f (a.map (upK g k)) (b.map (upK g k))
    | .agg l => .agg (l.map (upK g k))
    | .tup l => .tup (l.map (upK g k))
    | .any => .any
    | .ln l => .ln l
    | .lp l => .lp (l.map (upK g k))
def upB (g : Nat → Option Nat) (x : AV) : AV := upK g 5 x
def upP (g : Nat → Option Nat) : Ob → Ob
  | .box t cs => .box t (cs.map (upB g))
  | .row k E s els => .row k E s els
  | .gone k => .gone k
  | .hole => .hole
  | .mp es => .mp es
  | .ra k E cs => .ra k E (cs.map (upB g))
theorem val_upK {Kn Kn' : Nat → Nat → Prop} {ρ ρ' : Rho} {w : World} {Z Y : Nat → Prop} {g : Nat → Option Nat} (hk : ∀ i k j, g i = some j → Kn i k → Kn' j k ∧ ρ' j k = ρ i k) : ∀ (q : Nat) {x : AV} {v : Value}, Val Kn ρ w Z Y x v → Val Kn' ρ' w Z Y (upK g q x) v := by
  intro q
  induction q with
  | zero => intro x v _; exact .any v
  | succ q ih =>
    have pw : ∀ {l : List AV} {us : List Value}, l.length = us.length → (∀ (j : Nat) x u, l[j]? = some x → us[j]? = some u → Val Kn ρ w Z Y x u) → (l.map (upK g q)).length = us.length ∧ ∀ (j : Nat) x u, (l.map (upK g q))[j]? = some x → us[j]? = some u → Val Kn' ρ' w Z Y x u := fun {l us} h1 h2 => by
      refine ⟨by simpa using h1, fun j x u hj hu => ?_⟩
      rw [List.getElem?_map] at hj
      cases hx : l[j]? with
      | none => rw [hx] at hj; cases hj
      | some y => rw [hx] at hj; cases hj; exact ih (h2 j y u hx hu)
    intro x v h
    cases h with
    | any v => exact .any v
    | t h => exact .t h
    | nl a => exact .nl a
    | ln hr hz hn he => exact .ln hr hz hn he
    | lp hl ho hc hv => exact .lp (by simpa using hl) ho hc (pw hl hv).2
    | @sl i k n hk' hc h0 =>
      simp only [upK]
      cases hg : g i with
      | none => exact .any _
      | some j =>
        obtain ⟨h1, h2⟩ := hk i k j hg hk'
        rw [← h2] at hc h0 ⊢
        exact .sl h1 hc h0
    | @sub i k off n a c hk' hn hm h0 ha =>
      simp only [upK]
      cases hg : g i with
      | none => exact .any _
      | some j =>
        obtain ⟨h1, h2⟩ := hk i k j hg hk'
        exact .sub h1 hn hm h0 (by rw [h2]; exact ha)
    | @ptr i off b hk' ha =>
      simp only [upK]
      cases hg : g i with
      | none => exact .any _
      | some j =>
        obtain ⟨h1, h2⟩ := hk i 0 j hg hk'
        exact .ptr h1 (by rw [h2]; exact ha)
    | @mv i b hk' ha =>
      simp only [upK]
      cases hg : g i with
      | none => exact .any _
      | some j =>
        obtain ⟨h1, h2⟩ := hk i 0 j hg hk'
        exact .mv h1 (by rw [h2]; exact ha)
    | cl hr hz hn he => exact .cl hr hz hn he
    | @rp i k idx off hk' =>
      simp only [upK]
      cases hg : g i with
      | none => exact .any _
      | some j =>
        obtain ⟨h1, h2⟩ := hk i k j hg hk'
        rw [← h2]
        exact .rp h1
    | fn h1 h2 hu hv =>
      obtain ⟨a1, a2⟩ := pw h1 hu
      obtain ⟨b1, b2⟩ := pw h2 hv
      exact .fn a1 b1 a2 b2
    | agg h1 ho hu => obtain ⟨a1, a2⟩ := pw h1 hu; exact .agg a1 ho a2
    | tup h1 hu => obtain ⟨a1, a2⟩ := pw h1 hu; exact .tup a1 a2
theorem val_upB {Kn Kn' : Nat → Nat → Prop} {ρ ρ' : Rho} {w : World} {Z Y : Nat → Prop} {g : Nat → Option Nat} (hk : ∀ i k j, g i = some j → Kn i k → Kn' j k ∧ ρ' j k = ρ i k) {x : AV} {v : Value} (h : Val Kn ρ w Z Y x v) : Val Kn' ρ' w Z Y (upB g x) v := val_upK hk 5 h
theorem upP_holds {Kn Kn' : Nat → Nat → Prop} {ρ ρ' : Rho} {w : World} {Z Y : Nat → Prop} {g : Nat → Option Nat} (hk : ∀ i k j, g i = some j → Kn i k → Kn' j k ∧ ρ' j k = ρ i k) {i j : Nat} {o : Ob} (hρ : ∀ k, k < o.lim → ρ' j k = ρ i k) (h : o.holds (Val Kn ρ w Z Y) ρ w Z i) :
    (upP g o).holds (Val Kn' ρ' w Z Y) ρ' w Z j := by
  cases o with
  | box t cs =>
    obtain ⟨b, us, h1, h2, h3, h4⟩ := h
    refine ⟨b, us, by rw [hρ 0 (Nat.le_refl _)]; exact h1, h2, ⟨by rw [List.length_map]; exact h3.len, fun q x u hj hu => ?_⟩, h4⟩
    rw [List.getElem?_map] at hj
    cases hx : cs[q]? with
    | none => rw [hx] at hj; cases hj
    | some y => rw [hx] at hj; cases hj; exact val_upB hk (h3.at_ q y u hx hu)
  | row k E s els =>
    obtain ⟨h1, xs, h2, h3⟩ := h
    have e := hρ k (Nat.le_refl _)
    exact ⟨by rw [e]; exact h1, xs, h2, by rw [e]; exact h3⟩
  | gone => trivial
  | hole => trivial
  | mp es =>
    obtain ⟨b, arr, c, h1, h2, h3⟩ := h
    exact ⟨b, arr, c, by rw [hρ 0 (Nat.le_refl _)]; exact h1, h2, h3⟩
  | ra k E cs =>
    obtain ⟨h1, us, h2, h3, h4⟩ := h
    have e := hρ k (Nat.le_refl _)
    refine ⟨by rw [e]; exact h1, us, ⟨by rw [List.length_map]; exact h2.len, fun q x u hj hu => ?_⟩, h3, by rw [e, List.length_map]; exact h4⟩
    rw [List.getElem?_map] at hj
    cases hx : cs[q]? with
    | none => rw [hx] at hj; cases hj
    | some y => rw [hx] at hj; cases hj; exact val_upB hk (h2.at_ q y u hx hu)
theorem upP_blk {ρ ρ' : Rho} {g : Nat → Option Nat} {i j : Nat} {o : Ob} (hρ : ∀ k, k < o.lim → ρ' j k = ρ i k) : (upP g o).blk ρ' j = o.blk ρ i := by
  cases o with
  | box t cs => simp only [upP, Ob.blk]; rw [hρ 0 (Nat.le_refl _)]
  | row k E s els => simp only [upP, Ob.blk]; rw [hρ k (Nat.le_refl _)]
  | gone => rfl
  | hole => rfl
  | mp es => simp only [upP, Ob.blk]; rw [hρ 0 (Nat.le_refl _)]
  | ra k E cs => simp only [upP, Ob.blk]; rw [hρ k (Nat.le_refl _)]
theorem upP_lim {g : Nat → Option Nat} (o : Ob) : (upP g o).lim = o.lim := by cases o <;> rfl
section
variable {P : Program} {Q : QS} {n : Fr} {T : Nat → AV} {heap : List Ob} {d : Nat}
theorem Ok.sel2 {e : Env} {w : World} {ρ : Rho} {Z Y : Nat → Prop} (h : Ok e heap w ρ Z Y) {heap' : List Ob} (f : Nat → Nat) (g : Nat → Option Nat) (hinj : ∀ i j, i < heap'.length → j < heap'.length → f i = f j → i = j)
    (hget : ∀ (j : Nat) (o' : Ob), heap'[j]? = some o' → ∃ o, heap[f j]? = some o ∧ o' = upP g o) (hg : ∀ i j, i < heap.length → g i = some j → f j = i ∧ j < heap'.length) (hH : ∀ i, i < e.H.length → i < heap.length → i < heap'.length ∧ f i = i) :
    ∃ ρ', Ok e heap' w ρ' Z Y ∧ ∀ x v, Val (Kn heap) ρ w Z Y x v → Val (Kn heap') ρ' w Z Y (upB g x) v := by
  let ρ' : Rho := fun j k => ρ (f j) k
  have kn : ∀ (j k : Nat), j < heap'.length → Kn heap (f j) k → Kn heap' j k := fun j k hj ⟨o, ho, hk⟩ => by
    obtain ⟨o1, h1, h2⟩ := hget j _ (List.getElem?_eq_getElem hj)
    rw [ho] at h1; cases h1
    exact ⟨_, List.getElem?_eq_getElem hj, by rw [h2, upP_lim]; exact hk⟩
  have up : ∀ i k j, g i = some j → Kn heap i k → Kn heap' j k ∧ ρ' j k = ρ i k := fun i k j hj hk => by
    have hlt : i < heap.length := hk.elim fun _ h => get_lt h.1
    obtain ⟨h1, h2⟩ := hg i j hlt hj
    subst h1
    exact ⟨kn j k h2 hk, rfl⟩
  have hval : ∀ x v, Val (Kn heap) ρ w Z Y x v → Val (Kn heap') ρ' w Z Y (upB g x) v := fun x v hv => val_upB up hv
  have blk : ∀ (j : Nat) (o : Ob), (upP g o).blk ρ' j = o.blk ρ (f j) := fun j o => upP_blk fun k _ => rfl
  refine ⟨ρ', ⟨⟨fun j o' hj => ?_, fun i j o o' b hi hj hp hq => ?_, fun j o' b hj hp => ?_, h.rep.zy, h.rep.ylt⟩, fun j o' b hj hp => ?_, h.zone, h.z0, h.y0, fun i k hk => ?_, h.os, h.tape, h.output, h.size, h.keep⟩, hval⟩
  · obtain ⟨o, h1, rfl⟩ := hget j o' hj
    exact upP_holds up (fun k _ => rfl) (h.rep.obs _ o h1)
  · obtain ⟨p, h1, rfl⟩ := hget i o hi
    obtain ⟨q, h2, rfl⟩ := hget j o' hj
    rw [blk] at hp hq
    exact hinj i j (get_lt hi) (get_lt hj) (h.rep.apart _ _ p q b h1 h2 hp hq)
  · obtain ⟨o, h1, rfl⟩ := hget j o' hj
    rw [blk] at hp
    exact h.rep.own _ o b h1 hp
  · obtain ⟨o, h1, rfl⟩ := hget j o' hj
    rw [blk] at hp
    exact h.dom _ o b h1 hp
  · obtain ⟨h1, h2⟩ := h.rho i k hk
    have hi : i < e.H.length := by obtain ⟨o, ho, _⟩ := hk; exact get_lt ho
    have hi' : i < heap.length := by obtain ⟨o, ho, _⟩ := h1; exact get_lt ho
    obtain ⟨h3, h4⟩ := hH i hi hi'
    refine ⟨kn i k h3 (by rw [h4]; exact h1), ?_⟩
    show ρ (f i) k = _
    rw [h4]; exact h2
def Fk (g : Nat → Option Nat) (T T' : Nat → AV) : Prop := ∀ t, T' t = .any ∨ T' t = upB g (T t)
theorem Fk.nil {g : Nat → Option Nat} : Fk g T (fun _ => .any) := fun _ => .inl rfl
theorem Fk.pu {g : Nat → Option Nat} {T' : Nat → AV} {d : Nat} {x : AV} (hx : upB g (T d) = x) (k : Fk g T T') : Fk g T (pu T' d x) := fun t => by
  cases hb : Nat.beq t d with
  | true =>
    have := Nat.eq_of_beq_eq_true hb
    subst this
    simp only [Go.Proofs.Ytmljglphegeilaa.pu, Nat.beq_refl, cond_true]
    exact .inr hx.symm
  | false =>
    simp only [Go.Proofs.Ytmljglphegeilaa.pu, hb, cond_false]
    exact k t
theorem Wk.cut2 {T' : Nat → AV} {heap' : List Ob} (m : Nat) (hm : n.h ≤ m) (hh : (heap.take m).map (upP (keepG m)) = heap') (hT : Fk (keepG m) T T') : Wk n T heap T' heap' := by
  subst hh
  rintro e a w ⟨ρ, Z, Y, hR⟩
  have hlen : ((heap.take m).map (upP (keepG m))).length = min m heap.length := by simp
  obtain ⟨ρ', k1, k2⟩ := Ok.sel2 (heap := heap) hR.ok (heap' := (heap.take m).map (upP (keepG m))) id (keepG m) (fun i j _ _ h => h) (fun j o' hj => by
    rw [List.getElem?_map, List.getElem?_take] at hj
    split at hj
    · cases hx : heap[j]? with
      | none => rw [hx] at hj; cases hj
      | some o => rw [hx] at hj; cases hj; exact ⟨o, hx, rfl⟩
    · cases hj) (fun i j hi hj => by
    obtain ⟨rfl, h2⟩ := keepG_some hj
    exact ⟨rfl, by rw [hlen]; omega⟩) (fun i h1 h2 => by
    have h3 : e.H.length ≤ n.h := hR.hl
    exact ⟨by rw [hlen]; omega, rfl⟩)
  refine ⟨ρ', Z, Y, k1, hR.defers, hR.n, hR.hl, fun t v ht => ?_⟩
  rcases hT t with h | h
  · show Val _ _ _ _ _ (T' t) _
    rw [h]; exact .any _
  · show Val _ _ _ _ _ (T' t) _
    rw [h]; exact k2 _ _ (hR.at_ t v ht)
end
end Go.Proofs.Ytmljglphegeilaa

namespace Go.Proofs.Ytmljglphegeilaa
set_option linter.unusedVariables false
set_option linter.unusedSimpArgs false
set_option linter.unnecessarySimpa false
open Go.RowKit
inductive PassO (heap : List Ob) (sel : List Nat) : Ob → Ob → Prop
  | row {k : Nat} {E : TypeId} {s : Nat} {els : List (List Tr)} : PassO heap sel (.row k E s els) (.row k E s els)
  | box {t : TypeId} {cs cs' : List AV} (h : PassL heap sel cs cs') : PassO heap sel (.box t cs) (.box t cs')
inductive PassH (heap : List Ob) (sel : List Nat) : List Nat → List Ob → Prop
  | nil : PassH heap sel [] []
  | cons {i : Nat} {o o' : Ob} {l : List Nat} {H : List Ob} (hi : heap[i]? = some o) (h : PassO heap sel o o') (k : PassH heap sel l H) : PassH heap sel (i :: l) (o' :: H)
theorem PassH.get {heap : List Ob} {sel l : List Nat} {H : List Ob} (h : PassH heap sel l H) : l.length = H.length ∧ ∀ (p i : Nat), l[p]? = some i → ∃ o o', heap[i]? = some o ∧ H[p]? = some o' ∧ PassO heap sel o o' := by
  induction h with
  | nil => exact ⟨rfl, fun p i h => by simp at h⟩
  | @cons i o o' l H hi h k ih =>
    refine ⟨by simp [ih.1], fun p j hp => ?_⟩
    cases p with
    | zero => simp at hp; subst hp; exact ⟨o, o', hi, rfl, h⟩
    | succ p => exact ih.2 p j (by simpa using hp)
theorem PassO.lim {heap : List Ob} {sel : List Nat} {o o' : Ob} (h : PassO heap sel o o') : o'.lim = o.lim := by cases h <;> rfl
theorem PassO.blk {heap : List Ob} {sel : List Nat} {o o' : Ob} (h : PassO heap sel o o') {ρ ρ' : Rho} {i j : Nat} (hρ : ∀ k, ρ' j k = ρ i k) : o'.blk ρ' j = o.blk ρ i := by
  cases h with
  | row => simp only [Ob.blk, hρ]
  | box => simp only [Ob.blk, hρ]
section
variable {P : Program} {ops : Array Oper} {Q : QS} {rest : List Oper} {o : Oper} {n : Fr} {T : Nat → AV} {heap : List Ob} {d : Nat}
theorem sel_getD {sel : List Nat} {p i : Nat} (h : sel[p]? = some i) : sel.getD p 0 = i := by rw [List.getD_eq_getElem?_getD, h]; rfl
def Cio (P : Program) (f : FuncId) (args : List AV) (H : List Ob) (r : AV) (L : List Ob) : Prop := C P f args H (fun r' L' => r' = r ∧ L' = L)
theorem Cio.enter' {f : FuncId} {fn : Func} {c : Code} (hf : P.funcs[f]? = some fn) (hb : fn.body = some c) {args : List AV} {H : List Ob} {r : AV} {L : List Ob} {N : Nat} (hn : fn.ntmps = N) (hle : Nat.ble args.length N = true) {M : Nat} (hM : H.length = M) (h : AW P c (retQ P fn (fun r' L' => r' = r ∧ L' = L) ⟨N, M⟩) ⟨N, M⟩ (argT args) H) : Cio P f args H r L :=
  C.enter' hf hb hn hle hM h
end
end Go.Proofs.Ytmljglphegeilaa

namespace Go.Proofs.Ytmljglphegeilaa
set_option linter.unusedVariables false
set_option linter.unusedSimpArgs false
set_option linter.unnecessarySimpa false
open Go.RowKit
inductive VR (heap : List Ob) (h : Nat) (K : List Nat) : AV → AV → Prop
  | any (x : AV) : VR heap h K x .any
  | t {x y : Tr} (he : x = y) : VR heap h K (.t x) (.t y)
  | nl : VR heap h K .nl .nl
  | old {i k n n' : Nat} (hi : Nat.blt i h = true) (hn : n = n') : VR heap h K (.sl i k n) (.sl i k n')
  | new {i j k n n' : Nat} {E : TypeId} {s : Nat} {els : List (List Tr)} (hj : Nat.ble h j = true) (hq : K[j - h]? = some i) (hi : heap[i]? = some (.row k E s els)) (hn : n = n') : VR heap h K (.sl i k n) (.sl j 0 n')
  | optr {i off : Nat} (hi : Nat.blt i h = true) : VR heap h K (.ptr i off) (.ptr i off)
  | nptr {i j off : Nat} {t : TypeId} {cs : List AV} (hj : Nat.ble h j = true) (hq : K[j - h]? = some i) (hi : heap[i]? = some (.box t cs)) : VR heap h K (.ptr i off) (.ptr j off)
  | agg {l l' : List AV} (h1 : l.length = l'.length) (hp : ∀ (j : Nat) x y, l[j]? = some x → l'[j]? = some y → VR heap h K x y) : VR heap h K (.agg l) (.agg l')
  | tup {l l' : List AV} (h1 : l.length = l'.length) (hp : ∀ (j : Nat) x y, l[j]? = some x → l'[j]? = some y → VR heap h K x y) : VR heap h K (.tup l) (.tup l')
inductive VRL (heap : List Ob) (h : Nat) (K : List Nat) : List AV → List AV → Prop
  | nil : VRL heap h K [] []
  | cons {x y : AV} {l l' : List AV} (hx : VR heap h K x y) (k : VRL heap h K l l') : VRL heap h K (x :: l) (y :: l')
theorem VRL.get {heap : List Ob} {h : Nat} {K : List Nat} {l l' : List AV} (hl : VRL heap h K l l') : l.length = l'.length ∧ ∀ (j : Nat) x y, l[j]? = some x → l'[j]? = some y → VR heap h K x y := by
  induction hl with
  | nil => exact ⟨rfl, fun j x y h => by simp at h⟩
  | cons h k ih =>
    refine ⟨by simp [ih.1], fun j x y hj hy => ?_⟩
    cases j with
    | zero => simp at hj hy; subst hj hy; exact h
    | succ j => exact ih.2 j x y (by simpa using hj) (by simpa using hy)
theorem VR.aggL {heap : List Ob} {h : Nat} {K : List Nat} {l l' : List AV} (hl : VRL heap h K l l') : VR heap h K (.agg l) (.agg l') := .agg hl.get.1 hl.get.2
theorem VR.tupL {heap : List Ob} {h : Nat} {K : List Nat} {l l' : List AV} (hl : VRL heap h K l l') : VR heap h K (.tup l) (.tup l') := .tup hl.get.1 hl.get.2
inductive VO (heap : List Ob) (h : Nat) (K : List Nat) : Bool → Ob → Ob → Prop
  | row {k : Nat} {E : TypeId} {s : Nat} {els els' : List (List Tr)} (he : els = els') : VO heap h K false (.row k E s els) (.row k E s els')
  | rset {k : Nat} {E : TypeId} {s : Nat} {els els' : List (List Tr)} (he : els = els') : VO heap h K true (.row k E s els) (.row 0 E s els')
  | box {r : Bool} {t : TypeId} {cs cs' : List AV} (hl : VRL heap h K cs cs') : VO heap h K r (.box t cs) (.box t cs')
  | gone {k : Nat} : VO heap h K false (.gone k) (.gone k)
inductive VH (heap : List Ob) (h : Nat) (K : List Nat) : Bool → List Nat → List Ob → Prop
  | nil {r : Bool} : VH heap h K r [] []
  | cons {r : Bool} {i : Nat} {o o' : Ob} {l : List Nat} {L : List Ob} (hi : heap[i]? = some o) (ho : VO heap h K r o o') (k : VH heap h K r l L) : VH heap h K r (i :: l) (o' :: L)
theorem VH.get {heap : List Ob} {h : Nat} {K : List Nat} {r : Bool} {l : List Nat} {L : List Ob} (hl : VH heap h K r l L) : l.length = L.length ∧ ∀ (p i : Nat), l[p]? = some i → ∃ o o', heap[i]? = some o ∧ L[p]? = some o' ∧ VO heap h K r o o' := by
  induction hl with
  | nil => exact ⟨rfl, fun p i h => by simp at h⟩
  | @cons i o o' l L hi ho k ih =>
    refine ⟨by simp [ih.1], fun p j hp => ?_⟩
    cases p with
    | zero => simp at hp; subst hp; exact ⟨o, o', hi, rfl, ho⟩
    | succ p => exact ih.2 p j (by simpa using hp)
section
variable {P : Program} {Q : QS} {n : Fr} {T : Nat → AV} {heap : List Ob}
theorem Ok.fin {e : Env} {w : World} {ρ : Rho} {Z Y : Nat → Prop} (hk : Ok e heap w ρ Z Y) {h : Nat} {K : List Nat} (he : e.H.length ≤ h) (hK : K.Nodup) (hK1 : ∀ i ∈ K, h ≤ i) {L1 L2 : List Ob} (h1 : VH heap h K false (List.range h) L1) (h2 : VH heap h K true K L2) :
    ∃ ρ', Ok e (L1 ++ L2) w ρ' Z Y ∧ ∀ x y v, VR heap h K x y → Val (Kn heap) ρ w Z Y x v → Val (Kn (L1 ++ L2)) ρ' w Z Y y v := by
  obtain ⟨l1, g1⟩ := h1.get
  obtain ⟨l2, g2⟩ := h2.get
  simp only [List.length_range] at l1
  let f : Nat → Nat := fun j => if j < h then j else K.getD (j - h) 0
  let ρ' : Rho := fun j k => if j < h then ρ j k else match heap[K.getD (j - h) 0]? with
    | some o => ρ (K.getD (j - h) 0) (o.lim - 1)
    | none => ρ 0 0
  have get : ∀ (j : Nat) (o' : Ob), (L1 ++ L2)[j]? = some o' → ∃ o, heap[f j]? = some o ∧ VO heap h K (decide (h ≤ j)) o o' ∧ (h ≤ j → K[j - h]? = some (f j)) := fun j o' hj => by
    by_cases c : j < h
    · rw [List.getElem?_append_left (by omega)] at hj
      obtain ⟨o, o1, a1, a2, a3⟩ := g1 j j (by rw [List.getElem?_range c])
      rw [hj] at a2; cases a2
      refine ⟨o, by simp only [f, if_pos c]; exact a1, ?_, fun c' => by omega⟩
      rw [show decide (h ≤ j) = false by simp; omega]; exact a3
    · rw [List.getElem?_append_right (by omega), ← l1] at hj
      have hlt := get_lt hj
      rw [← l2] at hlt
      obtain ⟨o, o1, a1, a2, a3⟩ := g2 (j - h) _ (List.getElem?_eq_getElem hlt)
      rw [hj] at a2; cases a2
      have hf : f j = K[j - h] := by simp only [f, if_neg c, List.getD_eq_getElem?_getD, List.getElem?_eq_getElem hlt, Option.getD_some]
      refine ⟨o, by rw [hf]; exact a1, ?_, fun _ => by rw [hf]; exact List.getElem?_eq_getElem hlt⟩
      rw [show decide (h ≤ j) = true by simp; omega]; exact a3
  have ρl : ∀ {j : Nat}, j < h → ∀ k, ρ' j k = ρ j k := fun {j} c k => if_pos c
  have ρg : ∀ {j i : Nat} {o : Ob}, h ≤ j → K[j - h]? = some i → heap[i]? = some o → ∀ k, ρ' j k = ρ i (o.lim - 1) := fun {j i o} c hi ho k => by
    show (if j < h then ρ j k else match heap[K.getD (j - h) 0]? with | some o => ρ (K.getD (j - h) 0) (o.lim - 1) | none => ρ 0 0) = _
    rw [if_neg (by omega), sel_getD hi, ho]
  have knl : ∀ {i k : Nat}, i < h → Kn heap i k → Kn (L1 ++ L2) i k := fun {i k} c ⟨o, ho, hko⟩ => by
    obtain ⟨o1, o', a1, a2, a3⟩ := g1 i i (by rw [List.getElem?_range c])
    rw [ho] at a1; cases a1
    refine ⟨o', by rw [List.getElem?_append_left (by omega)]; exact a2, ?_⟩
    cases a3 <;> exact hko
  have kng : ∀ {i j : Nat}, h ≤ j → K[j - h]? = some i → Kn (L1 ++ L2) j 0 := fun {i j} c hi => by
    obtain ⟨o1, o', a1, a2, a3⟩ := g2 (j - h) i hi
    refine ⟨o', by rw [List.getElem?_append_right (by omega), ← l1]; exact a2, ?_⟩
    cases a3 <;> simp [Ob.lim]
  have val : ∀ {x y : AV}, VR heap h K x y → ∀ {v : Value}, Val (Kn heap) ρ w Z Y x v → Val (Kn (L1 ++ L2)) ρ' w Z Y y v := by
    have pw : ∀ {l l' : List AV} {us : List Value}, l.length = l'.length → l.length = us.length → (∀ (j : Nat) x y, l[j]? = some x → l'[j]? = some y → ∀ {v : Value}, Val (Kn heap) ρ w Z Y x v → Val (Kn (L1 ++ L2)) ρ' w Z Y y v) → (∀ (j : Nat) x u, l[j]? = some x → us[j]? = some u → Val (Kn heap) ρ w Z Y x u) →
        ∀ (j : Nat) y u, l'[j]? = some y → us[j]? = some u → Val (Kn (L1 ++ L2)) ρ' w Z Y y u := by
      intro l l' us e1 e2 ih hv j y u hj hu
      have hlt := get_lt hj
      rw [← e1] at hlt
      exact ih j _ y (List.getElem?_eq_getElem hlt) hj (hv j _ u (List.getElem?_eq_getElem hlt) hu)
    intro x y hxy
    induction hxy with
    | any x => intro v _; exact .any v
    | t he => intro v hv; subst he; cases hv with | t h => exact .t h
    | nl => intro v hv; cases hv with | nl a => exact .nl a
    | @old i k n n' hi hn =>
      intro v hv
      subst hn
      have c : i < h := Nat.le_of_ble_eq_true hi
      cases hv with
      | sl hk hc h0 => rw [← ρl c] at hc h0 ⊢; exact .sl (knl c hk) hc h0
    | @new i j k n n' E s els hj hq hi hn =>
      intro v hv
      subst hn
      have c : h ≤ j := Nat.le_of_ble_eq_true hj
      cases hv with
      | sl hk hc h0 =>
        have e : ρ' j 0 = ρ i k := ρg c hq hi 0
        rw [← e] at hc h0 ⊢
        exact .sl (kng c hq) hc h0
    | @optr i off hi =>
      intro v hv
      have c : i < h := Nat.le_of_ble_eq_true hi
      cases hv with
      | ptr hk ha => exact .ptr (knl c hk) (by rw [ρl c]; exact ha)
    | @nptr i j off t cs hj hq hi =>
      intro v hv
      have c : h ≤ j := Nat.le_of_ble_eq_true hj
      cases hv with
      | ptr hk ha => exact .ptr (kng c hq) (by rw [ρg c hq hi 0]; exact ha)
    | agg e1 hp ih => intro v hv; cases hv with | agg a1 a2 a3 => exact .agg (by rw [← e1]; exact a1) a2 (pw e1 a1 ih a3)
    | tup e1 hp ih => intro v hv; cases hv with | tup a1 a3 => exact .tup (by rw [← e1]; exact a1) (pw e1 a1 ih a3)
  have blk : ∀ (j : Nat) (o' o : Ob), (L1 ++ L2)[j]? = some o' → heap[f j]? = some o → VO heap h K (decide (h ≤ j)) o o' → (h ≤ j → K[j - h]? = some (f j)) → o'.blk ρ' j = o.blk ρ (f j) := fun j o' o _ ho hv hK' => by
    by_cases c : j < h
    · have ef : f j = j := by simp only [f, if_pos c]
      rw [ef] at ho ⊢
      rw [show decide (h ≤ j) = false by simp; omega] at hv
      cases hv with
      | row => simp only [Ob.blk, ρl c]
      | box => simp only [Ob.blk, ρl c]
      | gone => rfl
    · have hq := hK' (by omega)
      rw [show decide (h ≤ j) = true by simp; omega] at hv
      cases hv with
      | rset => simp only [Ob.blk, ρg (by omega) hq ho]; rfl
      | box => simp only [Ob.blk, ρg (by omega) hq ho]; rfl
  have inj : ∀ i j, i < (L1 ++ L2).length → j < (L1 ++ L2).length → f i = f j → i = j := fun i j hi hj hf => by
    simp only [List.length_append] at hi hj
    have inK : ∀ q, h ≤ q → q < L1.length + L2.length → K[q - h]? = some (f q) := fun q c1 c2 => by
      have hlt : q - h < K.length := by omega
      simp only [f, if_neg (show ¬ q < h by omega), List.getD_eq_getElem?_getD, List.getElem?_eq_getElem hlt, Option.getD_some]
    by_cases ci : i < h <;> by_cases cj : j < h
    · simpa only [f, if_pos ci, if_pos cj] using hf
    · have := hK1 _ (List.mem_of_getElem? (inK j (by omega) hj))
      rw [← hf] at this
      simp only [f, if_pos ci] at this; omega
    · have := hK1 _ (List.mem_of_getElem? (inK i (by omega) hi))
      rw [hf] at this
      simp only [f, if_pos cj] at this; omega
    · have e1 := inK i (by omega) hi
      have e2 := inK j (by omega) hj
      rw [← hf] at e2
      have key : ∀ p q, p < q → K[p]? = some (f i) → K[q]? = some (f i) → False := fun p q hpq h1 h2 => by
        have a1 := get_lt h1
        have a2 := get_lt h2
        rw [List.getElem?_eq_getElem a1] at h1
        rw [List.getElem?_eq_getElem a2] at h2
        exact List.pairwise_iff_getElem.1 hK p q a1 a2 hpq ((Option.some.inj h1).trans (Option.some.inj h2).symm)
      rcases Nat.lt_trichotomy (i - h) (j - h) with c | c | c
      · exact (key _ _ c e1 e2).elim
      · omega
      · exact (key _ _ c e2 e1).elim
  refine ⟨ρ', ⟨⟨fun j o' hj => ?_, fun i j o o' b hi hj hp hq => ?_, fun j o' b hj hp => ?_, hk.rep.zy, hk.rep.ylt⟩, fun j o' b hj hp => ?_, hk.zone, hk.z0, hk.y0, fun i k hik => ?_, hk.os, hk.tape, hk.output, hk.size, hk.keep⟩, fun x y v hxy hv => val hxy hv⟩
  · obtain ⟨o, a1, a2, a3⟩ := get j o' hj
    have ho := hk.rep.obs _ o a1
    by_cases c : j < h
    · have ef : f j = j := by simp only [f, if_pos c]
      rw [ef] at ho
      rw [show decide (h ≤ j) = false by simp; omega] at a2
      cases a2 with
      | row he => subst he; obtain ⟨b1, xs, b2, b3⟩ := ho; exact ⟨by rw [ρl c]; exact b1, xs, b2, by rw [ρl c]; exact b3⟩
      | box hl =>
        obtain ⟨b, us, b1, b2, b3, b4⟩ := ho
        obtain ⟨c1, c2⟩ := hl.get
        refine ⟨b, us, by rw [ρl c]; exact b1, b2, ⟨by rw [← c1]; exact b3.len, fun q y u hq hu => ?_⟩, b4⟩
        have hlt := get_lt hq
        rw [← c1] at hlt
        exact val (c2 q _ y (List.getElem?_eq_getElem hlt) hq) (b3.at_ q _ u (List.getElem?_eq_getElem hlt) hu)
      | gone => trivial
    · have hq := a3 (by omega)
      rw [show decide (h ≤ j) = true by simp; omega] at a2
      cases a2 with
      | rset he =>
        subst he
        obtain ⟨b1, xs, b2, b3⟩ := ho
        have e := ρg (by omega) hq a1 0
        exact ⟨by rw [e]; exact b1, xs, b2, by rw [e]; exact b3⟩
      | box hl =>
        obtain ⟨b, us, b1, b2, b3, b4⟩ := ho
        obtain ⟨c1, c2⟩ := hl.get
        refine ⟨b, us, by rw [ρg (by omega) hq a1]; exact b1, b2, ⟨by rw [← c1]; exact b3.len, fun q y u hq hu => ?_⟩, b4⟩
        have hlt := get_lt hq
        rw [← c1] at hlt
        exact val (c2 q _ y (List.getElem?_eq_getElem hlt) hq) (b3.at_ q _ u (List.getElem?_eq_getElem hlt) hu)
  · obtain ⟨p, a1, a2, a3⟩ := get i o hi
    obtain ⟨q, b1, b2, b3⟩ := get j o' hj
    rw [blk i o p hi a1 a2 a3] at hp
    rw [blk j o' q hj b1 b2 b3] at hq
    exact inj i j (get_lt hi) (get_lt hj) (hk.rep.apart _ _ p q b a1 b1 hp hq)
  · obtain ⟨p, a1, a2, a3⟩ := get j o' hj
    rw [blk j o' p hj a1 a2 a3] at hp
    exact hk.rep.own _ p b a1 hp
  · obtain ⟨p, a1, a2, a3⟩ := get j o' hj
    rw [blk j o' p hj a1 a2 a3] at hp
    exact hk.dom _ p b a1 hp
  · obtain ⟨q1, q2⟩ := hk.rho i k hik
    have hi : i < e.H.length := by obtain ⟨o, ho, _⟩ := hik; exact get_lt ho
    exact ⟨knl (by omega) q1, by rw [ρl (by omega)]; exact q2⟩
theorem Fin.mkv {fn : Func} {r0 : AV} {L0 : List Ob} {rs : List ResultVar} (hrs : fn.results = rs.toArray) {xs : List AV} (hx : ResL P n T heap rs xs) (K : List Nat) (hK : K.Nodup) (hK1 : (K.all fun i => Nat.ble n.h i) = true)
    (h1 : VH heap n.h K false (List.range n.h) (L0.take n.h)) (h2 : VH heap n.h K true K (L0.drop n.h)) (hr : VR heap n.h K (resV xs) r0) : Fin P fn (fun r L => r = r0 ∧ L = L0) n T heap := by
  rintro e a w ⟨ρ, Z, Y, hR⟩
  obtain ⟨vs, q1, q2⟩ := hx.run hR
  obtain ⟨ρ', k1, k2⟩ := Ok.fin (heap := heap) hR.ok (h := n.h) hR.hl hK (fun i hi => Nat.le_of_ble_eq_true (List.all_eq_true.1 hK1 i hi)) h1 h2
  rw [List.take_append_drop] at k1 k2
  have hres : (results fn a.tmps).run P w = .ok (match vs with | [v] => v | l => .tuple l.toArray) w := by
    rw [results_eq, hrs]
    have hm : ((rs.toArray).mapM (resOf a.tmps)).run P w = .ok vs.toArray w := by
      rw [List.mapM_toArray]
      simp only [map_eq_pure_bind, Sem.run_bind, q1, Result.andThen_ok, Sem.run_pure]
    simp only [Sem.run_bind, hm, Result.andThen_ok]
    match vs with
    | [] => rfl
    | [v] => rfl
    | v :: u :: l => simp
  refine ⟨_, _, _, ρ', Z, Y, hres, ⟨rfl, rfl⟩, k1, k2 _ _ _ hr ?_⟩
  match xs, vs, q2 with
  | [], [], _ => exact .tup (us := []) rfl (fun j x u hj => by simp at hj)
  | [x], [v], h2 => exact h2.at_ 0 x v rfl rfl
  | x :: y :: l, v :: u :: m, h2 => exact .tup h2.len h2.at_
  | [], _ :: _, h2 => have := h2.len; simp at this
  | [_], [], h2 => have := h2.len; simp at this
  | [_], _ :: _ :: _, h2 => have := h2.len; simp at this
  | _ :: _ :: _, [], h2 => have := h2.len; simp at this
  | _ :: _ :: _, [_], h2 => have := h2.len; simp at this
end
end Go.Proofs.Ytmljglphegeilaa

namespace Go.Proofs.Ytmljglphegeilaa
set_option linter.unusedVariables false
set_option linter.unusedSimpArgs false
set_option linter.unnecessarySimpa false
open Go.RowKit
theorem PassL.append {heap : List Ob} {sel : List Nat} {a a' b b' : List AV} (h : PassL heap sel a a') (k : PassL heap sel b b') : PassL heap sel (a ++ b) (a' ++ b') := by
  induction h with
  | nil => exact k
  | cons h _ ih => exact .cons h ih
section
variable {P : Program} {ops : Array Oper} {Q : QS} {rest : List Oper} {o : Oper} {n : Fr} {T : Nat → AV} {heap : List Ob} {d : Nat}
end
end Go.Proofs.Ytmljglphegeilaa

namespace Go.Proofs.Ytmljglphegeilaa
set_option linter.unusedVariables false
set_option linter.unusedSimpArgs false
set_option linter.unnecessarySimpa false
open Go.RowKit
end Go.Proofs.Ytmljglphegeilaa

namespace Go.Proofs.Ytmljglphegeilaa
set_option linter.unusedVariables false
set_option linter.unusedSimpArgs false
set_option linter.unnecessarySimpa false
open Go.RowKit
section
variable {P : Program} {ops : Array Oper} {Q : QS} {rest : List Oper} {o : Oper} {n : Fr} {T : Nat → AV} {heap : List Ob} {d : Nat}
theorem A_append_nlsub (hw : wantedA n T ops o = true) (hd : o.dst = some d) (s x : Operand) (t : TypeId) (ho : o.op = .call { callee := .builtin .append, args := #[s, x], argTypes := #[t, t] })
    {e : TypeId} (ht : P.underlying t = some (.slice e)) {z : Value} {size bytes : Nat} (hI : (P.info? e).map (fun i => (i.zero, i.size, i.bytes)) = some (some z, size, bytes)) (hzs : z.cells.size = size)
    (hs : evA n T s = .nl) {i k off m : Nat} {E : TypeId} {els : List (List Tr)} (hx : evA n T x = .sub i k off m) (hi : heap[i]? = some (.row k E size els)) (hm : off + m = els.length) (b1 : m ≤ maxLen) (b2 : m * bytes ≤ 140737488355328) {els' : List (List Tr)} (he : els.drop off = els')
    {heap' : List Ob} {N : Nat} (hat : AtL heap N [.row 0 e size els'] heap') (k' : AL P ops Q rest n (pu T d (.sl N 0 m)) heap') : AL P ops Q (o :: rest) n T heap := by
  subst he
  have hr : Rd heap size (evA n T x) ((els.drop off).take m) := by rw [hx]; exact .sub hi (by omega)
  have e1 : (els.drop off).take m = els.drop off := List.take_of_length_le (by rw [List.length_drop]; omega)
  rw [e1] at hr
  have e2 : (els.drop off).length = m := by rw [List.length_drop]; omega
  exact A_append_nl hw hd s x t ho ht hI hzs hs hr (by rw [e2]; exact b1) (by rw [e2]; exact b2) rfl hat e2 k'
end
end Go.Proofs.Ytmljglphegeilaa

namespace Go.Proofs.Ytmljglphegeilaa
set_option linter.unusedVariables false
set_option linter.unusedSimpArgs false
set_option linter.unnecessarySimpa false
open Go.RowKit
section
variable {P : Program} {Q : QS} {n : Fr} {T : Nat → AV} {heap : List Ob} {d : Nat}
end
end Go.Proofs.Ytmljglphegeilaa

namespace Go.Proofs.Ytmljglphegeilaa
set_option linter.unusedVariables false
set_option linter.unusedSimpArgs false
set_option linter.unnecessarySimpa false
open Go.RowKit
inductive NzR : AV → AV → Prop
  | nlt : NzR .nl (.t (.lst []))
  | same (x : AV) : NzR x x
  | agg {l l' : List AV} (h1 : l.length = l'.length) (h : ∀ (j : Nat) x y, l[j]? = some x → l'[j]? = some y → NzR x y) : NzR (.agg l) (.agg l')
inductive NzL : List AV → List AV → Prop
  | nil : NzL [] []
  | cons {x y : AV} {l l' : List AV} (h : NzR x y) (g : NzL l l') : NzL (x :: l) (y :: l')
theorem NzL.get {l l' : List AV} (h : NzL l l') : l.length = l'.length ∧ ∀ (j : Nat) x y, l[j]? = some x → l'[j]? = some y → NzR x y := by
  induction h with
  | nil => exact ⟨rfl, fun j x y h => by simp at h⟩
  | cons h k ih =>
    refine ⟨by simp [ih.1], fun j x y hj hy => ?_⟩
    cases j with
    | zero => simp at hj hy; subst hj hy; exact h
    | succ j => exact ih.2 j x y (by simpa using hj) (by simpa using hy)
theorem NzR.aggL {l l' : List AV} (h : NzL l l') : NzR (.agg l) (.agg l') := .agg h.get.1 h.get.2
theorem NzR.val {Kn : Nat → Nat → Prop} {ρ : Rho} {w : World} {Z Y : Nat → Prop} {x y : AV} (h : NzR x y) : ∀ {v : Value}, Val Kn ρ w Z Y x v → Val Kn ρ w Z Y y v := by
  induction h with
  | nlt =>
    intro v hv
    cases hv with
    | nl sa => exact .t (.lst (size := 0) (xs := []) ⟨Nat.le_refl _, Nat.zero_le _, fun _ => ⟨rfl, rfl⟩, by simp, fun j u hj => by simp at hj⟩ (fun h => absurd rfl h) rfl (fun _ h => by simp at h) (fun i cs j x u hi => by simp at hi))
  | same x => intro v hv; exact hv
  | agg h1 h ih =>
    intro v hv
    cases hv with
    | agg e1 ho hu =>
      refine .agg (by rw [← h1]; exact e1) ho (fun j y u hj hu' => ?_)
      have hlt := get_lt hj
      rw [← h1] at hlt
      exact ih j _ y (List.getElem?_eq_getElem hlt) hj (hu j _ u (List.getElem?_eq_getElem hlt) hu')
end Go.Proofs.Ytmljglphegeilaa

namespace Go.Proofs.Ytmljglphegeilaa
set_option linter.unusedVariables false
set_option linter.unusedSimpArgs false
set_option linter.unnecessarySimpa false
open Go.RowKit
theorem Ok.frz {e : Env} {heap : List Ob} {w : World} {ρ : Rho} {Z Y : Nat → Prop} (ok : Ok e heap w ρ Z Y) {i k : Nat} {E : TypeId} {s : Nat} {els : List (List Tr)} (hi : heap[i]? = some (.row k E s els)) :
    ∃ Z' Y', Ok e (heap.set i (.gone k)) w ρ Z' Y' ∧ (∀ x v, Val (Kn heap) ρ w Z Y x v → Val (Kn (heap.set i (.gone k))) ρ w Z' Y' x v) ∧ ∀ x y, FzR i k els x y → ∀ v, Val (Kn heap) ρ w Z Y x v → Val (Kn (heap.set i (.gone k))) ρ w Z' Y' y v := by
  have hrep := ok.rep
  obtain ⟨h1, xs, h2, h3, h4⟩ := hrep.row hi
  have hz : ∀ b, Z b → (Z b ∨ (Ob.row k E s els).blk ρ i = some b) ∧ w.heap[b]? = w.heap[b]? := fun b hb => ⟨.inl hb, rfl⟩
  have hy : ∀ b, Y b → (Y b ∨ (Ob.row k E s els).blk ρ i = some b) ∧ w.heap[b]? = w.heap[b]? := fun b hb => ⟨.inl hb, rfl⟩
  have hm : ∀ x v, Val (Kn heap) ρ w Z Y x v → Val (Kn (heap.set i (.gone k))) ρ w (fun b => Z b ∨ (Ob.row k E s els).blk ρ i = some b) (fun b => Y b ∨ (Ob.row k E s els).blk ρ i = some b) x v := fun x v hv =>
    hv.mono (fun j q hj => ⟨hj.set hi (Nat.le_refl _), rfl⟩) hz hy
  have hok : Ok e (heap.set i (.gone k)) w ρ (fun b => Z b ∨ (Ob.row k E s els).blk ρ i = some b) (fun b => Y b ∨ (Ob.row k E s els).blk ρ i = some b) := by
    refine ok.mono (hrep.freeze hi) (fun j q hj => ⟨hj.set hi (Nat.le_refl _), rfl⟩) ⟨rfl, rfl, rfl⟩ (Nat.le_refl _) (fun j p b hj hp => ?_) (fun b hb => .inl hb) (fun b hb => .inl hb) (fun b hb => hb.elim .inl fun hb => .inr (ok.dom i _ b hi hb)) (fun _ _ _ => rfl)
    rw [List.getElem?_set] at hj
    split at hj
    · split at hj <;> cases hj
      cases hp
    · exact ok.dom j p b hj hp
  have hblk : xs ≠ [] → Z (adr (ρ i k).a).block ∨ (Ob.row k E s els).blk ρ i = some (adr (ρ i k).a).block := fun hne => .inr (by
    rcases h3 with ⟨_, _, e⟩ | ⟨hc, hh⟩
    · exact absurd e hne
    · simp only [Ob.blk]
      rw [if_neg (by omega)]
      cases ha : (ρ i k).a with
      | some b => rfl
      | none =>
        rw [ha] at hh
        rcases hh.2 with ⟨e, _⟩ | ⟨g, cap, cur, e, _⟩
        · simp only [Value.slice.injEq] at e; omega
        · simp at e)
  have hfz : ∀ m, m ≤ els.length → Frz w (fun b => Z b ∨ (Ob.row k E s els).blk ρ i = some b) (.lst (els.take m)) (.slice (ρ i k).a m (ρ i k).c) := fun m hm =>
    frz_take h4 (h2.mono fun _ _ h => Frz.mono hz h) hblk hm
  have hgz : ∀ (off m : Nat) (a : Option Addr) (c : Nat), m ≤ c → c ≤ maxLen → (a = .none → m = 0 ∧ c = 0) → (m ≠ 0 → a = some ((adr (ρ i k).a).add (off * (ρ i k).s))) → off + m ≤ els.length → Frz w (fun b => Z b ∨ (Ob.row k E s els).blk ρ i = some b) (.lst ((els.drop off).take m)) (.slice a m c) := by
    intro off m a c hn' hmx h0 ha hle
    have e : ((els.drop off).take m).length = m := by rw [List.length_take, List.length_drop]; omega
    have hm0 : ∀ {q : List Value}, q = (xs.drop (off * s)).take (m * s) → q ≠ [] → m ≠ 0 := fun e1 hne e2 => hne (by rw [e1, e2]; simp)
    have hE := (((h2.mono fun _ _ h => Frz.mono hz h).drop off).take m)
    refine .shut (xs := (xs.drop (off * s)).take (m * s)) (size := s) e ⟨hn', hmx, h0, ?_, fun j u hj => ?_⟩ (fun hne => ?_) hE
    · have := hE.len
      rw [e] at this; exact this
    · have hne := hm0 rfl (fun e => by rw [e] at hj; simp at hj)
      rw [List.getElem?_take] at hj
      split at hj
      · rw [ha hne, List.getElem?_drop] at *
        show w.cell? (Addr.add ((adr (ρ i k).a).add _) j) = _
        rw [add_add, h1]
        exact h4.cells _ u hj
      · cases hj
    · have hne' := hm0 rfl hne
      rw [ha hne']
      show Z (Addr.add _ _).block ∨ _ = some (Addr.add _ _).block
      rw [add_block]
      exact hblk (fun e => by rw [e] at hne; simp at hne)
  exact ⟨_, _, hok, hm, fun x y hr v hv => FzR.val hfz hgz hr (hm _ _ hv)⟩
theorem Val.tup_map {Kn Kn' : Nat → Nat → Prop} {ρ ρ' : Rho} {w : World} {Z Y Z' Y' : Nat → Prop} {l l' : List AV} {v : Value} (hl : l.length = l'.length) (h : ∀ (j : Nat) x y, l[j]? = some x → l'[j]? = some y → ∀ u, Val Kn ρ w Z Y x u → Val Kn' ρ' w Z' Y' y u) (hv : Val Kn ρ w Z Y (.tup l) v) : Val Kn' ρ' w Z' Y' (.tup l') v := by
  cases hv with
  | tup e1 hu =>
    refine .tup (by rw [← hl]; exact e1) (fun j y u hj hu' => ?_)
    have hlt := get_lt hj
    rw [← hl] at hlt
    exact h j _ y (List.getElem?_eq_getElem hlt) hj u (hu j _ u (List.getElem?_eq_getElem hlt) hu')
theorem C.mono' {P : Program} {f : FuncId} {args : List AV} {H : List Ob} {R R' : AV → List Ob → Prop} (h : C P f args H R)
    (k : ∀ (e : Env) (w : World) (ρ : Rho) (Z Y : Nat → Prop) r heap, e.H = H → R r heap → Ok e heap w ρ Z Y → ∃ r' heap' ρ' Z' Y', R' r' heap' ∧ Ok e heap' w ρ' Z' Y' ∧ ∀ v, Val (Kn heap) ρ w Z Y r v → Val (Kn heap') ρ' w Z' Y' r' v) : C P f args H R' := fun e vs h1 h2 h3 h4 => by
  refine (h e vs h1 h2 h3 h4).mono fun en w' hq => ?_
  obtain ⟨v, r, heap, ρ, Z, Y, he, hr, ho, hv⟩ := hq
  obtain ⟨r', heap', ρ', Z', Y', k1, k2, k3⟩ := k e w' ρ Z Y r heap h1 hr ho
  exact ⟨v, r', heap', ρ', Z', Y', he, k1, k2, k3 v hv⟩
theorem Cd.frz {P : Program} {f : FuncId} {args : List AV} {l l' : List AV} {L : List Ob} (h : Cd P f args (.tup l) L) (i : Nat) {k : Nat} {E : TypeId} {s : Nat} {els : List (List Tr)} (hi : L[i]? = some (.row k E s els)) (hr : FzL i k els l l') {L' : List Ob} (hL : L.set i (.gone k) = L') : Cd P f args (.tup l') L' := by
  subst hL
  refine C.mono' h fun e w ρ Z Y r heap _ hR ok => ?_
  obtain ⟨rfl, rfl⟩ := hR
  obtain ⟨Z', Y', k1, _, k3⟩ := ok.frz hi
  exact ⟨_, _, ρ, Z', Y', ⟨rfl, rfl⟩, k1, fun v hv => Val.tup_map hr.get.1 (fun j x y hx hy u hu => k3 x y (hr.get.2 j x y hx hy) u hu) hv⟩
theorem Cd.frz1 {P : Program} {f : FuncId} {args : List AV} {r r' : AV} {L : List Ob} (h : Cd P f args r L) (i : Nat) {k : Nat} {E : TypeId} {s : Nat} {els : List (List Tr)} (hi : L[i]? = some (.row k E s els)) (hr : FzR i k els r r') {L' : List Ob} (hL : L.set i (.gone k) = L') : Cd P f args r' L' := by
  subst hL
  refine C.mono' h fun e w ρ Z Y r heap _ hR ok => ?_
  obtain ⟨rfl, rfl⟩ := hR
  obtain ⟨Z', Y', k1, _, k3⟩ := ok.frz hi
  exact ⟨_, _, ρ, Z', Y', ⟨rfl, rfl⟩, k1, fun v hv => k3 _ _ hr v hv⟩
theorem Cd.drop {P : Program} {f : FuncId} {args : List AV} {r r' : AV} {L : List Ob} (h : Cd P f args r L) (hr : upA (fun _ => none) r = r') : Cd P f args r' [] := by
  subst hr
  refine C.mono' h fun e w ρ Z Y r heap hH hR ok => ?_
  obtain ⟨rfl, rfl⟩ := hR
  obtain ⟨ρ', k1, k2⟩ := ok.sel (heap' := []) (fun i => i) (fun _ => none) (fun i j hi => by simp at hi) (fun j o' hj => by simp at hj) (fun i j _ hj => by cases hj) (fun i hi => by rw [hH] at hi; simp at hi)
  exact ⟨_, _, ρ', Z, Y, ⟨rfl, rfl⟩, k1, fun v hv => k2 _ v hv⟩
end Go.Proofs.Ytmljglphegeilaa

namespace Go.Proofs.Ytmljglphegeilaa
set_option linter.unusedVariables false
set_option linter.unusedSimpArgs false
set_option linter.unnecessarySimpa false
open Go.RowKit
section
variable {P : Program} {n : Fr} {T : Nat → AV} {heap : List Ob}
end
end Go.Proofs.Ytmljglphegeilaa

namespace Go.Proofs.Ytmljglphegeilaa
set_option linter.unusedVariables false
set_option linter.unusedSimpArgs false
set_option linter.unnecessarySimpa false
open Go.RowKit
section
variable {P : Program} {ops : Array Oper} {rest : List Oper} {o : Oper} {n : Fr} {T : Nat → AV} {heap : List Ob} {d : Nat}
end
end Go.Proofs.Ytmljglphegeilaa

namespace Go.Proofs.Ytmljglphegeilaa
set_option linter.unusedVariables false
set_option linter.unusedSimpArgs false
set_option linter.unnecessarySimpa false
open Go.RowKit
theorem qN {P : Prop} (h : P := by (try simp only [List.take_zero, List.take_succ_cons, List.drop_zero, List.drop_succ_cons, List.nil_append, List.cons_append, List.append_nil, List.length_cons, List.length_nil, List.set_cons_zero, List.set_cons_succ, List.map_cons, List.map_nil, List.take_nil, List.drop_nil, Nat.zero_add, Nat.add_zero, Nat.reduceAdd, Nat.reduceSub]); rfl) : P := h
theorem qL {P : Prop} (h : P := by (try simp only [List.length_cons, List.length_nil, Nat.zero_add, Nat.reduceAdd]); rfl) : P := h
theorem qS {P : Prop} (h : P := by (try simp only [List.length_map, List.length_cons, List.length_nil, Nat.zero_add, Nat.add_zero, Nat.reduceAdd]); rfl) : P := h
theorem qB {P : Prop} (h : P := by (try simp only [List.length_map, List.length_cons, List.length_nil, List.length_append, maxLen]); omega) : P := h
theorem qR {P : Prop} (h : P := by simp only [List.replicate_succ, List.replicate_zero, List.cons_append, List.nil_append]; rfl) : P := h
theorem wi {n : Int} (h : -9223372036854775808 ≤ n ∧ n ≤ 9223372036854775807 := by first | omega | fail) : IntKind.i64.wrap n = n := IntWalk.i64_in n h
theorem wu {n : Int} (h : 0 ≤ n ∧ n ≤ 18446744073709551615 := by first | omega | fail) : IntKind.u64.wrap n = n := IntWalk.u64_in n h
section
variable {P : Program} {Q : QS} {n : Fr} {T : Nat → AV} {heap : List Ob}
theorem kct {c : Operand} {x y : Code} (hc : evA n T c = .t (.v (.bool true))) (k : AW P x Q n T heap) : AW P (.cond c x y) Q n T heap := AW.cond hc (fun _ => k) (fun h => by cases h)
theorem kcf {c : Operand} {x y : Code} (hc : evA n T c = .t (.v (.bool false))) (k : AW P y Q n T heap) : AW P (.cond c x y) Q n T heap := AW.cond hc (fun h => by cases h) (fun _ => k)
theorem kcp {c : Operand} {x y : Code} {p : Prop} {_ : Decidable p} (hc : evA n T c = .t (.v (.bool (decide p)))) (ht : p → AW P x Q n T heap) (hf : ¬ p → AW P y Q n T heap) : AW P (.cond c x y) Q n T heap := AW.cond hc (fun h => ht (of_decide_eq_true h)) (fun h => hf (of_decide_eq_false h))
theorem kcn {c : Operand} {x y : Code} {p : Prop} {_ : Decidable p} (hc : evA n T c = .t (.v (.bool (!decide p)))) (ht : ¬ p → AW P x Q n T heap) (hf : p → AW P y Q n T heap) : AW P (.cond c x y) Q n T heap :=
  AW.cond hc (fun h => ht (fun k => by rw [decide_eq_true k] at h; cases h)) (fun h => hf (by
    by_cases k : p
    · exact k
    · rw [decide_eq_false k] at h; cases h))
theorem kcb {c : Operand} {x y : Code} {b : Bool} (hc : evA n T c = .t (.v (.bool (!b)))) (ht : b = false → AW P x Q n T heap) (hf : b = true → AW P y Q n T heap) : AW P (.cond c x y) Q n T heap := AW.cond hc (fun h => ht (by simpa using h)) (fun h => hf (by simpa using h))
theorem kcc {c : Operand} {x y : Code} {b : Bool} (hc : evA n T c = .t (.v (.bool b))) (ht : b = true → AW P x Q n T heap) (hf : b = false → AW P y Q n T heap) : AW P (.cond c x y) Q n T heap := AW.cond hc ht hf
abbrev wk0 := @AW.seq
abbrev wk1 := @AW.block
abbrev wk2 := @thenQ_n
abbrev wk3 := @thenQ_r
abbrev wk4 := @thenQ_e
abbrev wk5 := @blockQ_n
abbrev wk6 := @blockQ_r
abbrev wk7 := @blockQ_e0
abbrev wk8 := @blockQ_e1
abbrev wk9 := @retQ_r
abbrev wka := @retQ_n
abbrev wkb := @AW.ret
abbrev wkc := @AW.exit
abbrev wkd := @AW.skip
theorem Fin.q {fn : Func} {r0 : AV} {L0 : List Ob} {rs : List ResultVar} (hrs : fn.results = rs.toArray) {xs : List AV} (hx : ResL P n T heap rs xs) (K : List Nat) (hK : K.Nodup := by first | decide | fail) (hK1 : (K.all fun i => Nat.ble n.h i) = true := by first | exact rfl | fail)
    (h1 : VH heap n.h K false (List.range n.h) (L0.take n.h) := by ((repeat' (first | exact .nil | refine .cons rfl ?_ ?_ | refine .cons ?_ ?_ | refine .row ?_ | refine .rset ?_ | refine .box ?_ | exact .gone | refine .aggL ?_ | refine .tupL ?_ | refine .old rfl ?_ | refine .new rfl rfl rfl ?_ | exact .nl | exact .optr rfl | exact .nptr rfl rfl rfl | refine .t ?_ | exact .any _ | rfl)); (first | done | fail))) (h2 : VH heap n.h K true K (L0.drop n.h) := by ((repeat' (first | exact .nil | refine .cons rfl ?_ ?_ | refine .cons ?_ ?_ | refine .row ?_ | refine .rset ?_ | refine .box ?_ | exact .gone | refine .aggL ?_ | refine .tupL ?_ | refine .old rfl ?_ | refine .new rfl rfl rfl ?_ | exact .nl | exact .optr rfl | exact .nptr rfl rfl rfl | refine .t ?_ | exact .any _ | rfl)); (first | done | fail))) (hr : VR heap n.h K (resV xs) r0 := by ((repeat' (first | exact .nil | refine .cons rfl ?_ ?_ | refine .cons ?_ ?_ | refine .row ?_ | refine .rset ?_ | refine .box ?_ | exact .gone | refine .aggL ?_ | refine .tupL ?_ | refine .old rfl ?_ | refine .new rfl rfl rfl ?_ | exact .nl | exact .optr rfl | exact .nptr rfl rfl rfl | refine .t ?_ | exact .any _ | rfl)); (first | done | fail))) : Fin P fn (fun r L => r = r0 ∧ L = L0) n T heap := Fin.mkv hrs hx K hK hK1 h1 h2 hr
theorem Wk.cq {T' : Nat → AV} {heap' : List Ob} (m : Nat) (hm : n.h ≤ m := by first | exact (Nat.le_of_ble_eq_true rfl) | fail) (hh : (heap.take m).map (upP (keepG m)) = heap' := by first | exact rfl | fail) (hT : Fk (keepG m) T T' := by ((repeat' (first | exact Fk.nil | refine Fk.pu ?_ ?_ | rfl | exact hup)); (first | done | fail))) : Wk n T heap T' heap' := Wk.cut2 m hm hh hT
end
section
variable {P : Program} {ops : Array Oper} {Q : QS} {rest : List Oper} {o : Oper} {n : Fr} {T : Nat → AV} {heap : List Ob} {d : Nat}
theorem A_mt (hw : wantedA n T ops o = true) (hd : o.dst = some d) {x : Operand} (ho : o.op = .move x) {y : Tr} (hx : evA n T x = .t y) (k : AL P ops Q rest n (pu T d (.t y)) heap) : AL P ops Q (o :: rest) n T heap := A_move hw hd x (.inl ho) hx k
theorem A_as (hw : wantedA n T ops o = true) (hd : o.dst = some d) {x : Operand} (ho : o.op = .assign x) {y : Tr} (hx : evA n T x = .t y) (k : AL P ops Q rest n (pu T d (.t y)) heap) : AL P ops Q (o :: rest) n T heap := A_move hw hd x (.inr ho) hx k
theorem R_mt {F : List Dl → (Nat → AV) → List Ob → Prop} {acc : List Dl} (hw : wantedA n T ops o = true) (hd : o.dst = some d) {x : Operand} (ho : o.op = .move x) {y : Tr} (hx : evA n T x = .t y) (k : RG P ops n F rest (acc ++ [⟨some d, .t y, [], []⟩]) (pu T d (.t y)) heap) : RG P ops n F (o :: rest) acc T heap := R_move hw hd x (.inl ho) hx k
theorem R_as {F : List Dl → (Nat → AV) → List Ob → Prop} {acc : List Dl} (hw : wantedA n T ops o = true) (hd : o.dst = some d) {x : Operand} (ho : o.op = .assign x) {y : Tr} (hx : evA n T x = .t y) (k : RG P ops n F rest (acc ++ [⟨some d, .t y, [], []⟩]) (pu T d (.t y)) heap) : RG P ops n F (o :: rest) acc T heap := R_move hw hd x (.inr ho) hx k
def opKind (o : Oper) : Nat := match o.op with
  | .move _ => 0
  | .assign _ => 1
  | .load t _ => 2 + 32 * t
  | .store t _ _ => 3 + 32 * t
  | .fieldAddr t _ _ => 4 + 32 * t
  | .field t _ _ => 5 + 32 * t
  | .indexAddr t _ _ => 6 + 32 * t
  | .box t _ => 7 + 32 * t
  | .alloc t => 8 + 32 * t
  | .binOp _ t _ _ _ => 9 + 32 * t
  | .call c => match c.callee with
    | .value (.func f) => 10 + 32 * f
    | .value _ => 11
    | _ => 12
  | .slice t _ _ _ _ => 13 + 32 * t
  | .build t _ => 14 + 32 * t
  | .buildSlice t _ _ => 15 + 32 * t
  | .makeSlice t _ _ => 16 + 32 * t
  | .convert s _ _ => 17 + 32 * s
  | .extract _ _ => 18
  | .pick _ _ _ => 19
  | .unOp _ _ _ => 20
  | .makeFunc _ _ _ => 21
  | _ => 31
theorem kAL (k : AL P ops Q rest n T heap) : AL P ops Q rest n T heap := k
theorem kL (c : Nat) (h : opKind o = c) (k : AL P ops Q (o :: rest) n T heap) : AL P ops Q (o :: rest) n T heap := k
theorem kRG {F : List Dl → (Nat → AV) → List Ob → Prop} {ac : List Dl} (k : RG P ops n F rest ac T heap) : RG P ops n F rest ac T heap := k
theorem kR (c : Nat) (h : opKind o = c) {F : List Dl → (Nat → AV) → List Ob → Prop} {ac : List Dl} (k : RG P ops n F (o :: rest) ac T heap) : RG P ops n F (o :: rest) ac T heap := k
end
end Go.Proofs.Ytmljglphegeilaa


namespace Go.Proofs.Ytmljglphegeilaa
set_option linter.unusedVariables false
set_option linter.unusedSimpArgs false
set_option linter.unnecessarySimpa false
theorem inf3 : (Try.prog.info? 3).map (fun i => (i.zero, i.size, i.bytes)) = some (some (.int .i64 0), 1, 8) := by kernel_rfl
theorem inf4 : (Try.prog.info? 4).map (fun i => (i.zero, i.size, i.bytes)) = some (some (.bool false), 1, 1) := by kernel_rfl
theorem inf22 : (Try.prog.info? 22).map (fun i => (i.zero, i.size, i.bytes)) = some (some (.slice none 0 0), 1, 24) := by kernel_rfl
theorem inf23 : (Try.prog.info? 23).map (fun i => (i.zero, i.size, i.bytes)) = some (some (.slice none 0 0), 1, 24) := by kernel_rfl
theorem inf25 : (Try.prog.info? 25).map (fun i => (i.zero, i.size, i.bytes)) = some (some (.agg #[.int .i64 0, .slice none 0 0, .slice none 0 0]), 3, 56) := by kernel_rfl
theorem inf26 : (Try.prog.info? 26).map (fun i => (i.zero, i.size, i.bytes)) = some (some (.slice none 0 0), 1, 24) := by kernel_rfl
theorem inf34 : (Try.prog.info? 34).map (fun i => (i.zero, i.size, i.bytes)) = some (some (.agg #[.bool false, .bool false, .bool false, .int .i64 0, .slice none 0 0, .int .i64 0, .int .i64 0]), 7, 56) := by kernel_rfl
theorem inf37 : (Try.prog.info? 37).map (fun i => (i.zero, i.size, i.bytes)) = some (some (.slice none 0 0), 1, 24) := by kernel_rfl
theorem inf39 : (Try.prog.info? 39).map (fun i => (i.zero, i.size, i.bytes)) = some (some (.agg #[.int .i64 0, .int .i64 0, .int .i64 0, .bool false, .slice none 0 0]), 5, 56) := by kernel_rfl
theorem inf42 : (Try.prog.info? 42).map (fun i => (i.zero, i.size, i.bytes)) = some (some (.int .i64 0), 1, 8) := by kernel_rfl
theorem inf44 : (Try.prog.info? 44).map (fun i => (i.zero, i.size, i.bytes)) = some (some (.agg #[.int .i64 0, .int .i64 0, .int .i64 0, .int .i64 0]), 4, 32) := by kernel_rfl
theorem inf46 : (Try.prog.info? 46).map (fun i => (i.zero, i.size, i.bytes)) = some (some (.agg #[.int .i64 0, .int .i64 0, .int .i64 0]), 3, 24) := by kernel_rfl
abbrev ud3 := @Try.underlying3
abbrev ud4 := @Try.underlying4
abbrev ud22 := @Try.underlying22
abbrev ud23 := @Try.underlying23
abbrev ud25 := @Try.underlying25
abbrev ud26 := @Try.underlying26
abbrev ud34 := @Try.underlying34
abbrev ud37 := @Try.underlying37
abbrev ud39 := @Try.underlying39
abbrev ud42 := @Try.underlying42
abbrev ud44 := @Try.underlying44
abbrev ud46 := @Try.underlying46
end Go.Proofs.Ytmljglphegeilaa


namespace Go.Proofs.Ytmljglphegeilaa
set_option linter.unusedVariables false
set_option linter.unusedSimpArgs false
set_option linter.unnecessarySimpa false
open Go.RowKit
section
variable {P : Program} {w : World}
theorem run_part {t : TypeId} (ha : ∀ w, (isAgg t).run P w = .ok false w) {cs : Array Value} {off : Nat} {v : Value} (hv : cs[off]? = some v) : (part t cs off).run P w = .ok v w := by
  unfold part
  simp only [Sem.run_bind, ha, Result.andThen_ok, Bool.false_eq_true, if_false, hv, Sem.run_pure]
theorem eqf_cons {d : Nat} {xs ys : Array Value} {f : Field} {fs : List Field} (hn : (f.name == "_") = false) {x y : Value} (hx : (part f.type xs f.offset).run P w = .ok x w) (hy : (part f.type ys f.offset).run P w = .ok y w) {p q : Prop} [Decidable p] [Decidable q]
    (h : (Op.equalIn d f.type x y).run P w = .ok (decide p) w) (k : (Op.eqFields d xs ys fs).run P w = .ok (decide q) w) : (Op.eqFields d xs ys (f :: fs)).run P w = .ok (decide (p ∧ q)) w := by
  have hn' : f.name ≠ "_" := by simpa using hn
  unfold Op.eqFields
  simp only [if_pos hn', Sem.run_bind, hx, hy, h, Result.andThen_ok]
  by_cases hp : p
  · simp only [hp, decide_true, Bool.not_true, Bool.false_eq_true, if_false, true_and]
    exact k
  · simp [hp]
theorem eqf_nil {d : Nat} {xs ys : Array Value} : (Op.eqFields d xs ys []).run P w = .ok (decide True) w := by
  unfold Op.eqFields; simp
theorem eq_int {t : TypeId} (ht : P.underlying t = some (.int .i64)) (d : Nat) (a b : Int) : (Op.equalIn (d + 1) t (.int .i64 a) (.int .i64 b)).run P w = .ok (decide (a = b)) w := by
  rw [run_equalIn_int w d t .i64 .i64 a b ht]
  by_cases h : a = b <;> simp [h]
theorem A_eqs {ops : Array Oper} {Q : QS} {rest : List Oper} {o : Oper} {n : Fr} {T : Nat → AV} {heap : List Ob} {d : Nat} (hw : wantedA n T ops o = true) (hd : o.dst = some d) (xt yt : TypeId) (x y : Operand) (ho : o.op = .binOp .eql xt x y yt) {us vs : Array Value} (hx : cvA (evA n T x) = some (.agg us)) (hy : cvA (evA n T y) = some (.agg vs))
    (hm : P.eqGuardType P.depth xt = false) {p : Prop} [Decidable p] (he : ∀ w, (Op.equalIn 10000 xt (.agg us) (.agg vs)).run P w = .ok (decide p) w) {c : Bool} (hc : decide p = c) (k : AL P ops Q rest n (pu T d (.t (.v (.bool c)))) heap) : AL P ops Q (o :: rest) n T heap := by
  subst hc
  exact A_bin hw hd _ _ _ _ _ ho hx hy (fun w => by rw [Sem.run_bind, run_eqGuard_agg w _ _ _ _ _ _ hm, Result.andThen_ok, run_eql_struct, he, Result.andThen_ok]) rfl k
end
theorem isAgg_no {t : TypeId} {k : IntKind} (h : Try.prog.underlying t = some (.int k)) (w : World) : (isAgg t).run Try.prog w = .ok false w := by
  unfold isAgg; simp only [Sem.run_bind, run_underlying h, Result.andThen_ok, Sem.run_pure]
set_option maxHeartbeats 4000000
set_option maxRecDepth 100000 in
theorem eqs46 (d : Nat) (a0 a1 a2 b0 b1 b2 : Int) (w : World) : (Op.equalIn (d + 2) 46 (.agg #[.int .i64 a0, .int .i64 a1, .int .i64 a2]) (.agg #[.int .i64 b0, .int .i64 b1, .int .i64 b2])).run Try.prog w = .ok (decide (a0 = b0 ∧ a1 = b1 ∧ a2 = b2 ∧ True)) w := by
  rw [run_equalIn_agg w (d + 1) 46 _ _ (by kernel_rfl) (by kernel_rfl)]
  simp only [Program.fieldsOf, Try.underlying46]
  refine eqf_cons (x := .int .i64 a0) (y := .int .i64 b0) (by kernel_rfl) (run_part (isAgg_no Try.underlying3) (by kernel_rfl)) (run_part (isAgg_no Try.underlying3) (by kernel_rfl)) (eq_int Try.underlying3 (d + 0) _ _) ?_
  refine eqf_cons (x := .int .i64 a1) (y := .int .i64 b1) (by kernel_rfl) (run_part (isAgg_no Try.underlying3) (by kernel_rfl)) (run_part (isAgg_no Try.underlying3) (by kernel_rfl)) (eq_int Try.underlying3 (d + 0) _ _) ?_
  refine eqf_cons (x := .int .i64 a2) (y := .int .i64 b2) (by kernel_rfl) (run_part (isAgg_no Try.underlying3) (by kernel_rfl)) (run_part (isAgg_no Try.underlying3) (by kernel_rfl)) (eq_int Try.underlying3 (d + 0) _ _) ?_
  exact eqf_nil
end Go.Proofs.Ytmljglphegeilaa


namespace Go.Proofs.Ytmljglphegeilaa
set_option linter.unusedVariables false
set_option linter.unusedSimpArgs false
set_option linter.unnecessarySimpa false
open Go.RowKit
def isPtr : AV → Bool
  | .ptr _ _ => true
  | .lp _ => true
  | .rp _ _ _ _ => true
  | _ => false
section
variable {P : Program} {ops : Array Oper} {Q : QS} {rest : List Oper} {o : Oper} {n : Fr} {T : Nat → AV} {heap : List Ob} {d : Nat}
theorem A_nilc (hw : wantedA n T ops o = true) (hd : o.dst = some d) (x : Operand) (ho : o.op = .nilCheck x) {y : AV} (hx : evA n T x = y) (hp : isPtr y = true) (k : AL P ops Q rest n (pu T d y) heap) : AL P ops Q (o :: rest) n T heap := by
  subst hx
  refine AL.val hw hd (fun e a w ρ Z Y hR => ⟨a.eval x, ?_, hR.eval x⟩) k
  have hv := hR.eval x
  have key : ∀ (y : AV) (v : Value), isPtr y = true → Val (Kn heap) ρ w Z Y y v → ∃ p, v = .pointer (some p) := by
    intro y v hp hv
    cases hv <;> first | (cases hp; done) | exact ⟨_, rfl⟩
  obtain ⟨p, e1⟩ := key _ _ hp hv
  unfold execOp; rw [ho]
  simp only [e1]
  rfl
theorem R_nilc {F : List Dl → (Nat → AV) → List Ob → Prop} {acc : List Dl} (hw : wantedA n T ops o = true) (hd : o.dst = some d) (x : Operand) (ho : o.op = .nilCheck x) {y : AV} (hx : evA n T x = y) (hp : isPtr y = true) (k : RG P ops n F rest (acc ++ [⟨some d, y, [], []⟩]) (pu T d y) heap) : RG P ops n F (o :: rest) acc T heap :=
  RG.cons hd.symm (fun T' h' hT hH hlen_ => A_nilc (by rw [wanted_eqA hT]; exact hw) hd x ho (by rw [ev_eq hT (by simp [ho, Op.operands, Call.operands])]; exact hx) hp (AL.nil ⟨rfl, rfl, rfl⟩)) rfl rfl k
theorem A_pkt (hw : wantedA n T ops o = true) (hd : o.dst = some d) (c x y : Operand) (ho : o.op = .pick c x y) (hc : evA n T c = .t (.v (.bool true))) {u : Tr} (hx : evA n T x = .t u) (k : AL P ops Q rest n (pu T d (.t u)) heap) : AL P ops Q (o :: rest) n T heap := A_pick hw hd c x y ho hc hx rfl rfl k
theorem A_pkf (hw : wantedA n T ops o = true) (hd : o.dst = some d) (c x y : Operand) (ho : o.op = .pick c x y) (hc : evA n T c = .t (.v (.bool false))) {u : Tr} (hx : evA n T y = .t u) (k : AL P ops Q rest n (pu T d (.t u)) heap) : AL P ops Q (o :: rest) n T heap := A_pick hw hd c x y ho hc rfl hx rfl k
theorem R_pkt {F : List Dl → (Nat → AV) → List Ob → Prop} {acc : List Dl} (hw : wantedA n T ops o = true) (hd : o.dst = some d) (c x y : Operand) (ho : o.op = .pick c x y) (hc : evA n T c = .t (.v (.bool true))) {u : Tr} (hx : evA n T x = .t u) (k : RG P ops n F rest (acc ++ [⟨some d, .t u, [], []⟩]) (pu T d (.t u)) heap) : RG P ops n F (o :: rest) acc T heap := R_pick hw hd c x y ho hc hx rfl rfl k
theorem R_pkf {F : List Dl → (Nat → AV) → List Ob → Prop} {acc : List Dl} (hw : wantedA n T ops o = true) (hd : o.dst = some d) (c x y : Operand) (ho : o.op = .pick c x y) (hc : evA n T c = .t (.v (.bool false))) {u : Tr} (hx : evA n T y = .t u) (k : RG P ops n F rest (acc ++ [⟨some d, .t u, [], []⟩]) (pu T d (.t u)) heap) : RG P ops n F (o :: rest) acc T heap := R_pick hw hd c x y ho hc rfl hx rfl k
end
end Go.Proofs.Ytmljglphegeilaa


namespace Go.Proofs.Ytmljglphegeilaa
set_option linter.unusedVariables false
set_option linter.unusedSimpArgs false
set_option linter.unnecessarySimpa false
open Go.RowKit
section
variable {P : Program} {ops : Array Oper} {Q : QS} {rest : List Oper} {o : Oper} {n : Fr} {T : Nat → AV} {heap : List Ob} {d : Nat}
end
end Go.Proofs.Ytmljglphegeilaa

