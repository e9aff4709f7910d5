/- Each operation over trees: boxes, pointers, loads, stores, rows. No program in sight. -/
import Derived.Test.YtkichjejadkdgaaTStep
import Derived.Test.YtkichjejadkdgaaTRun
namespace Go.Proofs.Ytkichjejadkdgaa
set_option linter.unusedVariables false
set_option linter.unusedSimpArgs false
set_option linter.unnecessarySimpa false
open Go.RowKit
/-- A slice value that reads as a list of elements, each of s cells. -/
inductive Rd (heap : List Ob) (s : Nat) : AV → List (List Tr) → Prop
  | ln {els : List (List Tr)} (h : ∀ cs ∈ els, cs.length = s) : Rd heap s (.ln els) els
  | lst {els : List (List Tr)} (h : ∀ cs ∈ els, cs.length = s) : Rd heap s (.t (.lst els)) els
  | nl : Rd heap s .nl []
  | sl {i k m : Nat} {E : TypeId} {els : List (List Tr)} (hi : heap[i]? = some (.row k E s els)) (hm : m ≤ els.length) : Rd heap s (.sl i k m) (els.take m)
  | all {i k m : Nat} {E : TypeId} {els : List (List Tr)} (hi : heap[i]? = some (.row k E s els)) (hm : els.length = m) : Rd heap s (.sl i k m) els
  | sub {i k off m : Nat} {E : TypeId} {els : List (List Tr)} (hi : heap[i]? = some (.row k E s els)) (hm : off + m ≤ els.length) : Rd heap s (.sub i k off m) ((els.drop off).take m)
def lenA : AV → Option Nat
  | .ln els => some els.length
  | .t (.lst els) => some els.length
  | .nl => some 0
  | .sl _ _ m => some m
  | .sub _ _ _ m => some m
  | _ => none
def shiftA (m : Nat) : AV → Option AV
  | .ptr i off => some (.ptr i (off + m))
  | .rp i k idx off => some (.rp i k idx (off + m))
  | .lp cs => some (.lp (cs.drop m))
  | _ => none
def trA : AV → Option Tr
  | .t x => some x
  | .nl => some (.lst [])
  | _ => none
def trsA : List AV → Option (List Tr)
  | [] => some []
  | x :: l => match trA x, trsA l with
    | some y, some m => some (y :: m)
    | _, _ => none
section
variable {heap : List Ob} {w w' : World} {ρ ρ' : Rho} {Z Z' Y Y' : Nat → Prop}
theorem rs_take {size : Nat} {a : Option Addr} {n c m : Nat} {xs : List Value} (h : Rs w size a n c xs) (hm : m ≤ n) : Rs w size a m c (xs.take (m * size)) := by
  have h1 := h.cap
  have h2 := h.len
  have h3 : m * size ≤ n * size := Nat.mul_le_mul_right _ hm
  refine ⟨by omega, h.most, fun e => ⟨by have := (h.none e).1; omega, (h.none e).2⟩, by rw [List.length_take]; omega, fun j u hj => ?_⟩
  rw [List.getElem?_take] at hj
  split at hj
  · exact h.cells j u hj
  · cases hj
theorem HRep.row (h : HRep heap w ρ Z Y) {i k : Nat} {E : TypeId} {s : Nat} {els : List (List Tr)} (hi : heap[i]? = some (.row k E s els)) :
    (ρ i k).s = s ∧ ∃ xs, Elems (Frz w Z) s els xs ∧ (Res.row (ρ i k).a els.length (ρ i k).c E s xs).holds 0 w ∧ Rs w s (ρ i k).a els.length (ρ i k).c xs := by
  obtain ⟨h1, xs, h2, h3⟩ := h.obs i _ hi
  exact ⟨h1, xs, h2, h3, rs_of_holds h3⟩
theorem resize {R : Tr → Value → Prop} {size s : Nat} {a : Option Addr} {c : Nat} {els : List (List Tr)} {xs : List Value} (h : ∀ cs ∈ els, cs.length = s) (hr : Rs w size a els.length c xs) (he : Elems R size els xs) : Rs w s a els.length c xs ∧ Elems R s els xs := by
  match els, h, hr, he with
  | [], h, hr, he =>
    have hx : xs = [] := List.eq_nil_of_length_eq_zero (by rw [he.len]; simp)
    subst hx
    exact ⟨⟨hr.cap, hr.most, hr.none, by simp, hr.cells⟩, .nil⟩
  | e :: els, h, hr, he =>
    have h1 := h e (List.mem_cons_self ..)
    have h2 := he.each e (List.mem_cons_self ..)
    rw [h1] at h2; subst h2
    exact ⟨hr, he⟩
theorem Rd.open (hr : HRep heap w ρ Z Y) {s : Nat} {x : AV} {els : List (List Tr)} {v : Value} (h : Rd heap s x els) (hv : Val (Kn heap) ρ w Z Y x v) : ∃ a c xs, v = .slice a els.length c ∧ Rs w s a els.length c xs ∧ Elems (Frz w Z) s els xs := by
  cases h with
  | ln h => cases hv with
    | ln hr' hz hn he => subst hn; obtain ⟨h1, h2⟩ := resize h hr' he; exact ⟨_, _, _, rfl, h1, h2⟩
  | lst h => cases hv with
    | t h' => obtain ⟨a, c, size, xs, h1, h2, _, h3⟩ := h'.open; obtain ⟨h4, h5⟩ := resize h h2 h3; exact ⟨a, c, xs, h1, h4, h5⟩
  | nl => cases hv with
    | nl a => exact ⟨a, 0, [], rfl, ⟨Nat.le_refl _, Nat.zero_le _, fun _ => ⟨rfl, rfl⟩, by simp, fun j u h => by simp at h⟩, .nil⟩
  | @sl i k m E els hi hm =>
    obtain ⟨h1, xs, h2, h3, h4⟩ := hr.row hi
    cases hv with
    | sl hk hc _ =>
      have e : (els.take m).length = m := by rw [List.length_take]; omega
      rw [e]
      exact ⟨_, _, _, rfl, rs_take h4 hm, h2.take m⟩
  | @all i k m E els hi hm =>
    obtain ⟨h1, xs, h2, h3, h4⟩ := hr.row hi
    cases hv with
    | sl hk hc _ => subst hm; exact ⟨_, _, _, rfl, h4, h2⟩
  | @sub i k off m E els hi hm =>
    obtain ⟨h1, xs, h2, h3, h4⟩ := hr.row hi
    cases hv with
    | @sub _ _ _ _ a c hk hn hmx h0 ha =>
      have e : ((els.drop off).take m).length = m := by rw [List.length_take, List.length_drop]; omega
      rw [e]
      refine ⟨_, _, _, rfl, ⟨hn, hmx, h0, ?_, fun j u hj => ?_⟩, (h2.drop off).take m⟩
      · have := ((h2.drop off).take m).len
        rw [e] at this; exact this
      · rw [List.getElem?_take] at hj
        split at hj
        · rename_i hlt
          have hm0 : m ≠ 0 := by intro e; rw [e] at hlt; simp at hlt
          rw [ha hm0, List.getElem?_drop] at *
          show w.cell? (Addr.add ((adr (ρ i k).a).add _) j) = _
          rw [add_add, h1]
          exact h4.cells _ u hj
        · cases hj
theorem lenA_open {Kn : Nat → Nat → Prop} {x : AV} {v : Value} {m : Nat} (h : lenA x = some m) (hv : Val Kn ρ w Z Y x v) : ∃ a c, v = .slice a m c := by
  cases hv <;> simp [lenA] at h
  · rename_i x h'
    cases x with
    | v => cases h
    | lst els => cases h; obtain ⟨a, c, _, _, e, _⟩ := h'.open; exact ⟨a, c, e⟩
  · exact ⟨_, _, by rw [h]⟩
  · rename_i hn _; exact ⟨_, _, by rw [← h, hn]⟩
  · exact ⟨_, _, by rw [h]⟩
  · exact ⟨_, _, by rw [h]⟩
theorem shiftA_open {Kn : Nat → Nat → Prop} {x y : AV} {v : Value} {m : Nat} (h : shiftA m x = some y) (hv : Val Kn ρ w Z Y x v) : ∃ p, v = .pointer (some p) ∧ Val Kn ρ w Z Y y (.pointer (some (p.add m))) := by
  cases hv <;> simp [shiftA] at h <;> subst h
  · rename_i cs p us hl ho hc hv
    refine ⟨_, rfl, .lp (us := us.drop m) (by simp [hl]) (fun u hu => ho u (List.mem_of_mem_drop hu)) (fun j u hj => ?_) (fun j x u hj hu => ?_)⟩
    · rw [List.getElem?_drop] at hj
      have := hc _ u hj
      exact ⟨by rw [add_block]; exact this.1, by rw [add_add]; exact this.2⟩
    · rw [List.getElem?_drop] at hj hu
      exact hv _ x u hj hu
  · rename_i hk ha; exact ⟨_, rfl, by rw [add_at]; exact .ptr hk ha⟩
  · rename_i hk; exact ⟨_, rfl, by rw [add_add, Nat.add_assoc]; exact .rp hk⟩
theorem trA_open {Kn : Nat → Nat → Prop} {x : AV} {y : Tr} {v : Value} (h : trA x = some y) (hv : Val Kn ρ w Z Y x v) : Frz w Z y v := by
  cases hv <;> simp [trA] at h <;> subst h
  · assumption
  · exact .shut (size := 0) (xs := []) rfl ⟨Nat.le_refl _, Nat.zero_le _, fun _ => ⟨rfl, rfl⟩, rfl, fun j u h => by simp at h⟩ (fun h => absurd rfl h) .nil
theorem trsA_open {Kn : Nat → Nat → Prop} : ∀ {l : List AV} {ts : List Tr} {us : List Value}, trsA l = some ts → AVs (Val Kn ρ w Z Y) l us → ts.length = us.length ∧ ∀ (j : Nat) x u, ts[j]? = some x → us[j]? = some u → Frz w Z x u := by
  intro l
  induction l with
  | nil =>
    intro ts us h hv
    cases h
    have := hv.len
    exact ⟨this, fun j x u hj => by simp at hj⟩
  | cons x l ih =>
    intro ts us h hv
    unfold trsA at h
    split at h
    · rename_i y m hy hm
      cases h
      match us, hv with
      | [], hv => have := hv.len; simp at this
      | u :: us, hv =>
        have h1 := ih hm ⟨by have := hv.len; simpa using this, fun j x u hj hu => hv.at_ (j + 1) x u (by simpa using hj) (by simpa using hu)⟩
        refine ⟨by simp [h1.1], fun j z v hj hu => ?_⟩
        cases j with
        | zero => simp at hj hu; subst hj hu; exact trA_open hy (hv.at_ 0 x u rfl rfl)
        | succ j => exact h1.2 j z v (by simpa using hj) (by simpa using hu)
    · cases h
end
section
variable {P : Program} {ops : Array Oper} {Q : QS} {rest : List Oper} {o : Oper} {n : Fr} {T : Nat → AV} {heap : List Ob} {d : Nat}
theorem vals_mono {R R' : AV → Value → Prop} {l : List AV} {us : List Value} (h : AVs R l us) (hm : ∀ x v, R x v → R' x v) : AVs R' l us := ⟨h.len, fun j x u a b => hm _ _ (h.at_ j x u a b)⟩
/-- A value as it is. -/
theorem A_move (hw : wantedA n T ops o = true) (hd : o.dst = some d) (x : Operand) (ho : o.op = .move x ∨ o.op = .assign x) {y : AV} (hx : evA n T x = y) (k : AL P ops Q rest n (pu T d y) heap) : AL P ops Q (o :: rest) n T heap := by
  subst hx
  exact AL.val hw hd (fun e a w ρ Z Y hR => ⟨a.eval x, by unfold execOp; rcases ho with ho | ho <;> rw [ho] <;> rfl, hR.eval x⟩) k
theorem A_box (hw : wantedA n T ops o = true) (hd : o.dst = some d) (t : TypeId) (x : Operand) (ho : o.op = .box t x) {cs : List AV} (hx : (evA n T x).flat = some cs) {heap' : List Ob} {N : Nat} (hat : AtL heap N [.box t cs] heap')
    (k : AL P ops Q rest n (pu T d (.ptr N 0)) heap') : AL P ops Q (o :: rest) n T heap := by
  refine AL.act hw hd (fun e a w ρ Z Y hR => ?_) k
  obtain ⟨us, h1, h2, h3⟩ := (hR.eval x).flat hx
  obtain ⟨ρ', k1, k2, k3, k4⟩ := hR.ok.push1 (o := .box t cs) hat (w' := w.alloc (.cells us.toArray t)) (pl := ⟨some ⟨w.heap.size, 0, none⟩, 0, 0⟩) ⟨rfl, rfl, rfl⟩ (by simp) (fun b hb => heap_alloc_old w _ b hb) (fun ρ' hN hρ => ⟨w.heap.size, us, by rw [hN], heap_alloc_new w _, vals_mono h2 fun x v hv => hR.ok.rep.val (fun j k hj => ⟨(hat.kn hj).1, hρ j k hj⟩) (fun _ h => h) (fun b hb => ⟨hb, heap_alloc_old w _ b (hR.ok.rep.ylt b hb)⟩) hv, h3⟩) (fun b hb _ => by simp at hb; subst hb; simp)
  refine ⟨.pointer (some ⟨w.heap.size, 0, none⟩), _, ρ', Z, Y, ?_, k1, k2, .ptr ⟨_, hat.one, Nat.le_refl _⟩ (by rw [k3])⟩
  refine val_of (s := Instr.box t (a.eval x)) (by unfold execOp; rw [ho]) ?_
  simp [Instr.box, newVar, newRow, h1]
theorem A_alloc (hw : wantedA n T ops o = true) (hd : o.dst = some d) (t : TypeId) (ho : o.op = .alloc t) {z : Value} {size bytes : Nat} (hI : (P.info? t).map (fun i => (i.zero, i.size, i.bytes)) = some (some z, size, bytes)) {cs : List AV} (hx : (ofConst z).flat = some cs)
    {heap' : List Ob} {N : Nat} (hat : AtL heap N [.box t cs] heap') (k : AL P ops Q rest n (pu T d (.ptr N 0)) heap') : AL P ops Q (o :: rest) n T heap := by
  refine AL.act hw hd (fun e a w ρ Z Y hR => ?_) k
  obtain ⟨us, h1, h2, h3⟩ := (val_ofConst (Kn := Kn heap) (ρ := ρ) (w := w) (Z := Z) (Y := Y) z).flat hx
  obtain ⟨inf, hi, hz, _, _⟩ := info_of hI
  obtain ⟨ρ', k1, k2, k3, k4⟩ := hR.ok.push1 (o := .box t cs) hat (w' := w.alloc (.cells us.toArray t)) (pl := ⟨some ⟨w.heap.size, 0, none⟩, 0, 0⟩) ⟨rfl, rfl, rfl⟩ (by simp) (fun b hb => heap_alloc_old w _ b hb) (fun ρ' hN hρ => ⟨w.heap.size, us, by rw [hN], heap_alloc_new w _, vals_mono h2 fun x v hv => hR.ok.rep.val (fun j k hj => ⟨(hat.kn hj).1, hρ j k hj⟩) (fun _ h => h) (fun b hb => ⟨hb, heap_alloc_old w _ b (hR.ok.rep.ylt b hb)⟩) hv, h3⟩) (fun b hb _ => by simp at hb; subst hb; simp)
  refine ⟨.pointer (some ⟨w.heap.size, 0, none⟩), _, ρ', Z, Y, ?_, k1, k2, .ptr ⟨_, hat.one, Nat.le_refl _⟩ (by rw [k3])⟩
  refine val_of (s := Instr.alloc t true (.tuple #[])) (by unfold execOp; rw [ho]) ?_
  simp [Instr.alloc, zeroValue, typeInfo, hi, hz, newVar, newRow, h1]
theorem A_field (hw : wantedA n T ops o = true) (hd : o.dst = some d) (t : TypeId) (x : Operand) (f : Nat) (ho : o.op = .fieldAddr t x f) {fs : Array Field} (hu : P.underlying t = some (.struct fs)) {fd : Field} (hf : fs[f]? = some fd)
    {z : Option Value} {size bytes : Nat} (hI : (P.info? fd.type).map (fun i => (i.zero, i.size, i.bytes)) = some (z, size, bytes)) (hs : size ≠ 0) (m : Nat) (hm : fd.offset = m) {y : AV} (hy : shiftA m (evA n T x) = some y) (k : AL P ops Q rest n (pu T d y) heap) : AL P ops Q (o :: rest) n T heap := by
  subst hm
  refine AL.val hw hd (fun e a w ρ Z Y hR => ?_) k
  obtain ⟨p, h1, h2⟩ := shiftA_open hy (hR.eval x)
  exact ⟨_, val_of (s := Instr.fieldAt t (a.eval x) f) (by unfold execOp; rw [ho]) (by rw [h1]; exact run_fieldAt hu hf hI hs p), h2⟩
theorem HRep.box {w : World} {ρ : Rho} {Z Y : Nat → Prop} (h : HRep heap w ρ Z Y) {i : Nat} {t : TypeId} {cs : List AV} (hi : heap[i]? = some (.box t cs)) {off : Nat} {v : Value} (hv : Val (Kn heap) ρ w Z Y (.ptr i off) v) :
    ∃ b us, v = .pointer (some ⟨b, off, none⟩) ∧ (ρ i 0).a = some ⟨b, 0, none⟩ ∧ w.heap[b]? = some (.cells us.toArray t (0, 0)) ∧ AVs (Val (Kn heap) ρ w Z Y) cs us ∧ ∀ u ∈ us, u.oneCell' = true := by
  obtain ⟨b, us, h1, h2, h3, h4⟩ := h.obs i _ hi
  cases hv with
  | ptr hk ha => rw [h1] at ha; cases ha; exact ⟨b, us, rfl, h1, h2, h3, h4⟩
def isAggT (d : TypeDesc) : Bool := match d with | .struct _ | .array _ _ => true | _ => false
theorem A_load (hw : wantedA n T ops o = true) (hd : o.dst = some d) (t : TypeId) (x : Operand) (ho : o.op = .load t x) {ds : TypeDesc} (hu : P.underlying t = some ds) (hds : (match ds with | .struct _ | .array _ _ => true | _ => false) = false)
    {i off : Nat} (hx : evA n T x = .ptr i off) {t' : TypeId} {cs : List AV} (hi : heap[i]? = some (.box t' cs)) {u : AV} (hc : cs[off]? = some u) (k : AL P ops Q rest n (pu T d u) heap) : AL P ops Q (o :: rest) n T heap := by
  refine AL.val hw hd (fun e a w ρ Z Y hR => ?_) k
  have hv := hR.eval x
  rw [hx] at hv
  obtain ⟨b, us, h1, _, h2, h3, h4⟩ := hR.ok.rep.box hi hv
  have hlt := get_lt hc
  rw [h3.len] at hlt
  refine ⟨us[off], val_of (s := Instr.loadAt t (a.eval x)) (by unfold execOp; rw [ho]) ?_, h3.at_ off u _ hc (List.getElem?_eq_getElem hlt)⟩
  rw [h1]
  exact run_load_one hu hds (by rw [cell_of_row w b off _ _ _ h2]; simp [List.getElem?_eq_getElem hlt])
theorem A_load_agg (hw : wantedA n T ops o = true) (hd : o.dst = some d) (t : TypeId) (x : Operand) (ho : o.op = .load t x) {ds : TypeDesc} (hu : P.underlying t = some ds) (hds : (match ds with | .struct _ | .array _ _ => true | _ => false) = true)
    {z : Option Value} {size bytes : Nat} (hI : (P.info? t).map (fun i => (i.zero, i.size, i.bytes)) = some (z, size, bytes)) {i off : Nat} (hx : evA n T x = .ptr i off) {t' : TypeId} {cs : List AV} (hi : heap[i]? = some (.box t' cs)) {us' : List AV} (hc : (cs.drop off).take size = us') (hl : us'.length = size)
    (k : AL P ops Q rest n (pu T d (.agg us')) heap) : AL P ops Q (o :: rest) n T heap := by
  subst hc
  refine AL.val hw hd (fun e a w ρ Z Y hR => ?_) k
  have hv := hR.eval x
  rw [hx] at hv
  obtain ⟨b, us, h1, _, h2, h3, h4⟩ := hR.ok.rep.box hi hv
  have hlen : ((us.drop off).take size).length = size := by
    rw [List.length_take, List.length_drop] at hl ⊢
    rw [h3.len] at hl; exact hl
  refine ⟨.agg ((us.drop off).take size).toArray, val_of (s := Instr.loadAt t (a.eval x)) (by unfold execOp; rw [ho]) ?_, .agg (by rw [hl, hlen]) (fun u hu => h4 u (List.mem_of_mem_drop (List.mem_of_mem_take hu))) (fun j x u hj hu => ?_)⟩
  · rw [h1]
    refine run_load_agg hu hds hI hlen fun j u hj => ?_
    rw [add_at, cell_of_row w b _ _ _ _ h2]
    rw [List.getElem?_take] at hj
    split at hj
    · rw [List.getElem?_drop] at hj; simpa using hj
    · cases hj
  · rw [List.getElem?_take] at hj hu
    split at hj
    · rename_i hlt
      rw [if_pos hlt] at hu
      rw [List.getElem?_drop] at hj hu
      exact h3.at_ _ x u hj hu
    · cases hj
theorem lp_open {Kn : Nat → Nat → Prop} {w : World} {ρ : Rho} {Z Y : Nat → Prop} {cs : List AV} {v : Value} (hv : Val Kn ρ w Z Y (.lp cs) v) : ∃ p us, v = .pointer (some p) ∧ (∀ (j : Nat) u, us[j]? = some u → Y p.block ∧ w.cell? (p.add j) = some u) ∧ AVs (Val Kn ρ w Z Y) cs us ∧ ∀ u ∈ us, u.oneCell' = true := by
  cases hv with
  | lp hl ho hc hv => exact ⟨_, _, rfl, hc, ⟨hl, hv⟩, ho⟩
theorem A_load_lp (hw : wantedA n T ops o = true) (hd : o.dst = some d) (t : TypeId) (x : Operand) (ho : o.op = .load t x) {ds : TypeDesc} (hu : P.underlying t = some ds) (hds : (match ds with | .struct _ | .array _ _ => true | _ => false) = false)
    {cs : List AV} (hx : evA n T x = .lp cs) {u : AV} (hc : cs[0]? = some u) (k : AL P ops Q rest n (pu T d u) heap) : AL P ops Q (o :: rest) n T heap := by
  refine AL.val hw hd (fun e a w ρ Z Y hR => ?_) k
  have hv := hR.eval x
  rw [hx] at hv
  obtain ⟨p, us, h1, h2, h3, h4⟩ := lp_open hv
  have hlt := get_lt hc
  rw [h3.len] at hlt
  refine ⟨us[0], val_of (s := Instr.loadAt t (a.eval x)) (by unfold execOp; rw [ho]) ?_, h3.at_ 0 u _ hc (List.getElem?_eq_getElem hlt)⟩
  rw [h1]
  have := (h2 0 _ (List.getElem?_eq_getElem hlt)).2
  exact run_load_one hu hds this
theorem A_load_lp_agg (hw : wantedA n T ops o = true) (hd : o.dst = some d) (t : TypeId) (x : Operand) (ho : o.op = .load t x) {ds : TypeDesc} (hu : P.underlying t = some ds) (hds : (match ds with | .struct _ | .array _ _ => true | _ => false) = true)
    {z : Option Value} {size bytes : Nat} (hI : (P.info? t).map (fun i => (i.zero, i.size, i.bytes)) = some (z, size, bytes)) {cs : List AV} (hx : evA n T x = .lp cs) {us' : List AV} (hc : cs.take size = us') (hl : us'.length = size)
    (k : AL P ops Q rest n (pu T d (.agg us')) heap) : AL P ops Q (o :: rest) n T heap := by
  subst hc
  refine AL.val hw hd (fun e a w ρ Z Y hR => ?_) k
  have hv := hR.eval x
  rw [hx] at hv
  obtain ⟨p, us, h1, h2, h3, h4⟩ := lp_open hv
  have hlen : (us.take size).length = size := by
    rw [List.length_take] at hl ⊢
    rw [h3.len] at hl; exact hl
  refine ⟨.agg (us.take size).toArray, val_of (s := Instr.loadAt t (a.eval x)) (by unfold execOp; rw [ho]) ?_, .agg (by rw [hl, hlen]) (fun u hu => h4 u (List.mem_of_mem_take hu)) (fun j x u hj hu => ?_)⟩
  · rw [h1]
    refine run_load_agg hu hds hI hlen fun j u hj => ?_
    rw [List.getElem?_take] at hj
    split at hj
    · exact (h2 j u hj).2
    · cases hj
  · rw [List.getElem?_take] at hj hu
    split at hj
    · rename_i hlt
      rw [if_pos hlt] at hu
      exact h3.at_ _ x u hj hu
    · cases hj
/-- A cell of an own row. -/
theorem HRep.rowcell {w : World} {ρ : Rho} {Z Y : Nat → Prop} (h : HRep heap w ρ Z Y) {i k : Nat} {E : TypeId} {s : Nat} {els : List (List Tr)} (hi : heap[i]? = some (.row k E s els)) {idx : Nat} {cs : List Tr} (he : els[idx]? = some cs) :
    ∃ us : List Value, us.length = cs.length ∧ (∀ (j : Nat) u, us[j]? = some u → w.cell? ((adr (ρ i k).a).add (idx * (ρ i k).s + j)) = some u) ∧ ∀ (j : Nat) x u, cs[j]? = some x → us[j]? = some u → Frz w Z x u := by
  obtain ⟨h1, xs, h2, h3, h4⟩ := h.row hi
  have hcl := h2.each cs (List.mem_of_getElem? he)
  have hlt := get_lt he
  have hle : idx * s + s ≤ xs.length := by rw [h2.len, ← Nat.succ_mul]; exact Nat.mul_le_mul_right _ hlt
  refine ⟨(xs.drop (idx * s)).take s, by rw [List.length_take, List.length_drop, hcl]; omega, fun j u hj => ?_, fun j x u hj hu => ?_⟩
  · rw [List.getElem?_take] at hj
    split at hj
    · rw [List.getElem?_drop] at hj
      rw [h1]; exact h4.cells _ u hj
    · cases hj
  · rw [List.getElem?_take] at hu
    split at hu
    · rw [List.getElem?_drop] at hu
      exact h2.at_ idx cs j x u he hj hu
    · cases hu
theorem A_load_rp (hw : wantedA n T ops o = true) (hd : o.dst = some d) (t : TypeId) (x : Operand) (ho : o.op = .load t x) {ds : TypeDesc} (hu : P.underlying t = some ds) (hds : (match ds with | .struct _ | .array _ _ => true | _ => false) = false)
    {i k' idx off : Nat} (hx : evA n T x = .rp i k' idx off) {E : TypeId} {s : Nat} {els : List (List Tr)} (hi : heap[i]? = some (.row k' E s els)) {cs : List Tr} (he : els[idx]? = some cs) {u : Tr} (hc : cs[off]? = some u) (k : AL P ops Q rest n (pu T d (.t u)) heap) : AL P ops Q (o :: rest) n T heap := by
  refine AL.val hw hd (fun e a w ρ Z Y hR => ?_) k
  have hv := hR.eval x
  rw [hx] at hv
  obtain ⟨us, h1, h2, h3⟩ := hR.ok.rep.rowcell hi he
  have hlt := get_lt hc
  rw [← h1] at hlt
  have hq := List.getElem?_eq_getElem hlt
  generalize hav : a.eval x = v at hv
  cases hv with
  | rp hk =>
  refine ⟨us[off], val_of (s := Instr.loadAt t (a.eval x)) (by unfold execOp; rw [ho]) ?_, .t (h3 off u _ hc hq)⟩
  rw [hav]
  exact run_load_one hu hds (h2 off _ hq)
theorem A_load_rp_agg (hw : wantedA n T ops o = true) (hd : o.dst = some d) (t : TypeId) (x : Operand) (ho : o.op = .load t x) {ds : TypeDesc} (hu : P.underlying t = some ds) (hds : (match ds with | .struct _ | .array _ _ => true | _ => false) = true)
    {z : Option Value} {size bytes : Nat} (hI : (P.info? t).map (fun i => (i.zero, i.size, i.bytes)) = some (z, size, bytes))
    {i k' idx off : Nat} (hx : evA n T x = .rp i k' idx off) {E : TypeId} {s : Nat} {els : List (List Tr)} (hi : heap[i]? = some (.row k' E s els)) {cs : List Tr} (he : els[idx]? = some cs) {us' : List AV} (hc : ((cs.drop off).take size).map .t = us') (hl : us'.length = size)
    (k : AL P ops Q rest n (pu T d (.agg us')) heap) : AL P ops Q (o :: rest) n T heap := by
  subst hc
  refine AL.val hw hd (fun e a w ρ Z Y hR => ?_) k
  have hv := hR.eval x
  rw [hx] at hv
  obtain ⟨us, h1, h2, h3⟩ := hR.ok.rep.rowcell hi he
  have hlen : ((us.drop off).take size).length = size := by
    rw [List.length_map, List.length_take, List.length_drop] at hl
    rw [List.length_take, List.length_drop]
    rw [← h1] at hl; exact hl
  have h4 : ∀ u ∈ us, u.oneCell' = true := fun u hu => by
    obtain ⟨j, hj⟩ := List.getElem?_of_mem hu
    have hlt := get_lt hj
    rw [h1] at hlt
    exact (h3 j _ u (List.getElem?_eq_getElem hlt) hj).one
  generalize hav : a.eval x = v at hv
  cases hv with
  | rp hk =>
  refine ⟨.agg ((us.drop off).take size).toArray, val_of (s := Instr.loadAt t (a.eval x)) (by unfold execOp; rw [ho]) ?_, .agg (by rw [hl, hlen]) (fun u hu => h4 u (List.mem_of_mem_drop (List.mem_of_mem_take hu))) (fun j x u hj hu => ?_)⟩
  · rw [hav]
    refine run_load_agg hu hds hI hlen fun j u hj => ?_
    rw [add_add, Nat.add_assoc]
    rw [List.getElem?_take] at hj
    split at hj
    · rw [List.getElem?_drop] at hj; exact h2 _ u hj
    · cases hj
  · rw [List.getElem?_map] at hj
    rw [List.getElem?_take] at hj hu
    split at hu
    · rename_i hlt
      rw [if_pos hlt, List.getElem?_drop] at hj
      rw [List.getElem?_drop] at hu
      cases hc : cs[off + j]? with
      | none => rw [hc] at hj; cases hj
      | some y => rw [hc] at hj; cases hj; exact .t (h3 _ y u hc hu)
    · cases hu
theorem ro_open {Kn : Nat → Nat → Prop} {w : World} {ρ : Rho} {Z Y : Nat → Prop} (hzy : ∀ b, Z b → Y b) {x : AV} {els : List (List Tr)} {v : Value} (hx : x = .ln els ∨ x = .t (.lst els)) (hv : Val Kn ρ w Z Y x v) :
    ∃ a c s xs, v = .slice a els.length c ∧ Rs w s a els.length c xs ∧ (xs ≠ [] → Y (adr a).block) ∧ Elems (Frz w Z) s els xs := by
  rcases hx with rfl | rfl
  · cases hv with
    | ln hr hz hn he => subst hn; exact ⟨_, _, _, _, rfl, hr, hz, he⟩
  · cases hv with
    | t h =>
      obtain ⟨a, c, s, xs, h1, h2, h3, h4⟩ := h.open
      exact ⟨a, c, s, xs, h1, h2, fun hne => hzy _ (h3 hne), h4⟩
/-- The place of an element: of a row that is only read .. -/
theorem A_idx (hw : wantedA n T ops o = true) (hd : o.dst = some d) (t : TypeId) (x ix : Operand) (ho : o.op = .indexAddr t x ix) {e : TypeId} (ht : P.underlying t = some (.slice e)) {z : Option Value} {size bytes : Nat} (hI : (P.info? e).map (fun i => (i.zero, i.size, i.bytes)) = some (z, size, bytes)) (hsz : size ≠ 0)
    {els : List (List Tr)} (hx : evA n T x = .ln els ∨ evA n T x = .t (.lst els)) {kd : IntKind} {I : Int} (hix : evA n T ix = .t (.v (.int kd I))) (h0I : 0 ≤ I) (J : Nat) (hJ : I.toNat = J) {cs : List Tr} (he : els[J]? = some cs) (hs : cs.length = size)
    {cs' : List AV} (hc : cs.map .t = cs') (k : AL P ops Q rest n (pu T d (.lp cs')) heap) : AL P ops Q (o :: rest) n T heap := by
  subst hc
  obtain rfl : I = (J : Int) := by omega
  refine AL.val hw hd (fun en a w ρ Z Y hR => ?_) k
  obtain ⟨a', c, s, xs, h1, h2, h3, h4⟩ := ro_open hR.ok.rep.zy hx (hR.eval x)
  have hvi := hR.eval ix
  rw [hix] at hvi
  generalize hai : a.eval ix = vi at hvi
  cases hvi with
  | t h => cases h with
    | v h =>
    have hss : s = size := by rw [← hs]; exact (h4.each cs (List.mem_of_getElem? he)).symm
    subst hss
    have hlt := get_lt he
    have hle : J * s + s ≤ xs.length := by rw [h4.len, ← Nat.succ_mul]; exact Nat.mul_le_mul_right _ hlt
    have hY := h3 (fun e => by rw [e] at hle; simp at hle; omega)
    refine ⟨_, val_of (s := Instr.indexAt t (a.eval x) (a.eval ix)) (by unfold execOp; rw [ho]) (by rw [h1, hai]; exact run_idx ht hI a' els.length c kd J (fun e => (h2.none e).1) hlt), .lp (us := (xs.drop (J * s)).take s) (by simp; omega) (fun u hu => ?_) (fun j u hj => ?_) (fun j y u hj hu => ?_)⟩
    · exact h4.one u (List.mem_of_mem_drop (List.mem_of_mem_take hu))
    · refine ⟨by rw [add_block]; exact hY, ?_⟩
      rw [add_add]
      rw [List.getElem?_take] at hj
      split at hj
      · rw [List.getElem?_drop] at hj; exact h2.cells _ u hj
      · cases hj
    · rw [List.getElem?_map] at hj
      rw [List.getElem?_take] at hu
      split at hu
      · rw [List.getElem?_drop] at hu
        cases hcj : cs[j]? with
        | none => rw [hcj] at hj; cases hj
        | some q => rw [hcj] at hj; cases hj; exact .t (h4.at_ J cs j q u he hcj hu)
      · cases hu
/-- .. of an own row. -/
theorem A_idx_sl (hw : wantedA n T ops o = true) (hd : o.dst = some d) (t : TypeId) (x ix : Operand) (ho : o.op = .indexAddr t x ix) {e : TypeId} (ht : P.underlying t = some (.slice e)) {z : Option Value} {size bytes : Nat} (hI : (P.info? e).map (fun i => (i.zero, i.size, i.bytes)) = some (z, size, bytes))
    {i k' m : Nat} (hx : evA n T x = .sl i k' m) {E : TypeId} {els : List (List Tr)} (hi : heap[i]? = some (.row k' E size els)) (hm : m ≤ els.length) {kd : IntKind} {I : Int} (hix : evA n T ix = .t (.v (.int kd I))) (h0I : 0 ≤ I) (J : Nat) (hJ : I.toNat = J) (hlt : J < m)
    (k : AL P ops Q rest n (pu T d (.rp i k' J 0)) heap) : AL P ops Q (o :: rest) n T heap := by
  obtain rfl : I = (J : Int) := by omega
  refine AL.val hw hd (fun en a w ρ Z Y hR => ?_) k
  have hv := hR.eval x
  rw [hx] at hv
  have hvi := hR.eval ix
  rw [hix] at hvi
  obtain ⟨h1, xs, h2, h3, h4⟩ := hR.ok.rep.row hi
  generalize hai : a.eval ix = vi at hvi
  generalize hax : a.eval x = vx at hv
  cases hv with
  | sl hk hcc _ =>
  cases hvi with
  | t h => cases h with
    | v h =>
    refine ⟨_, val_of (s := Instr.indexAt t (a.eval x) (a.eval ix)) (by unfold execOp; rw [ho]) (by rw [hax, hai]; exact run_idx ht hI _ m _ kd J (fun e => by have := (h4.none e).1; omega) hlt), ?_⟩
    have := Val.rp (ρ := ρ) (w := w) (Z := Z) (Y := Y) (idx := J) (off := 0) hk
    rw [h1, Nat.add_zero] at this
    exact this
theorem A_idx_sub (hw : wantedA n T ops o = true) (hd : o.dst = some d) (t : TypeId) (x ix : Operand) (ho : o.op = .indexAddr t x ix) {e : TypeId} (ht : P.underlying t = some (.slice e)) {z : Option Value} {size bytes : Nat} (hI : (P.info? e).map (fun i => (i.zero, i.size, i.bytes)) = some (z, size, bytes))
    {i k' off m : Nat} (hx : evA n T x = .sub i k' off m) {E : TypeId} {els : List (List Tr)} (hi : heap[i]? = some (.row k' E size els)) {kd : IntKind} {I : Int} (hix : evA n T ix = .t (.v (.int kd I))) (h0I : 0 ≤ I) (J : Nat) (hJ : I.toNat = J) (hlt : J < m)
    (k : AL P ops Q rest n (pu T d (.rp i k' (off + J) 0)) heap) : AL P ops Q (o :: rest) n T heap := by
  obtain rfl : I = (J : Int) := by omega
  refine AL.val hw hd (fun en a w ρ Z Y hR => ?_) k
  have hv := hR.eval x
  rw [hx] at hv
  have hvi := hR.eval ix
  rw [hix] at hvi
  obtain ⟨h1, xs, h2, h3, h4⟩ := hR.ok.rep.row hi
  generalize hai : a.eval ix = vi at hvi
  generalize hax : a.eval x = vx at hv
  cases hv with
  | @sub _ _ _ _ a' c' hk hn hm h0 ha =>
  cases hvi with
  | t h => cases h with
    | v h =>
    have ha' := ha (by omega)
    subst ha'
    refine ⟨_, val_of (s := Instr.indexAt t (a.eval x) (a.eval ix)) (by unfold execOp; rw [ho]) (by rw [hax, hai]; exact run_idx ht hI _ m _ kd J (fun e => by cases e) hlt), ?_⟩
    have := Val.rp (ρ := ρ) (w := w) (Z := Z) (Y := Y) (idx := off + J) (off := 0) hk
    show Val _ _ _ _ _ _ (.pointer (some (Addr.add ((adr (ρ i k').a).add _) _)))
    rw [add_add]
    rw [h1, Nat.add_zero, Nat.add_mul] at this
    rw [h1]
    exact this
/-- A store: into a box .. -/
theorem A_store (hw : wantedA n T ops o = true) (hd : o.dst = none) (t : TypeId) (x y : Operand) (ho : o.op = .store t x y) {z : Option Value} {size bytes : Nat} (hI : (P.info? t).map (fun i => (i.zero, i.size, i.bytes)) = some (z, size, bytes))
    {i off : Nat} (hx : evA n T x = .ptr i off) {t' : TypeId} {cs : List AV} (hi : heap[i]? = some (.box t' cs)) {us : List AV} (hy : (evA n T y).flat = some us) (hl : us.length = size) (hf : off + us.length ≤ cs.length)
    {cs' : List AV} (hc : cs.take off ++ us ++ cs.drop (off + us.length) = cs') {heap' : List Ob} (hh : heap.set i (.box t' cs') = heap') (k : AL P ops Q rest n T heap') : AL P ops Q (o :: rest) n T heap := by
  subst hc hh
  refine AL.unit hw hd (fun e a w ρ Z Y hR => ?_) k
  have hv := hR.eval x
  rw [hx] at hv
  obtain ⟨b, vs, h1, h1', h2, h3, h4⟩ := hR.ok.rep.box hi hv
  obtain ⟨us', g1, g2, g3⟩ := (hR.eval y).flat hy
  obtain ⟨inf, hin, _, hsz, _⟩ := info_of hI
  have hs : (sizeOf t).run P w = .ok size w := run_size hI
  have hlen := g2.len
  have hlen' := h3.len
  obtain ⟨w', r1, r2, r3⟩ := run_store_box hs g1 (by omega) g3 (b := b) (off := off) h2 (by omega)
  have hblk : (Ob.box t' cs).blk ρ i = some b := by simp [Ob.blk, h1']
  have hsame : ∀ b', b' < w.heap.size → (Ob.box t' cs).blk ρ i ≠ some b' → w'.heap[b']? = w.heap[b']? := fun b' hb' hne => r3.block b' hb' (fun e => hne (by rw [hblk, e]))
  have hm : ∀ x v, Val (Kn heap) ρ w Z Y x v → Val (Kn (heap.set i (.box t' (cs.take off ++ us ++ cs.drop (off + us.length))))) ρ w' Z Y x v := fun x v hv =>
    hR.ok.rep.val (fun j k hj => ⟨hj.set hi (by exact Nat.le_refl _), rfl⟩) (fun _ h => h) (fun b' hb' => ⟨hb', hsame b' (hR.ok.rep.ylt b' hb') (hR.ok.rep.notin hi hb')⟩) hv
  refine ⟨w', ρ, Z, Y, ?_, hR.ok.turn hi (Nat.le_refl _) (fun _ _ _ => rfl) ⟨r3.os, r3.tape, r3.output⟩ r3.size hsame ⟨b, _, h1', r2, ⟨?_, fun j x u hj hu => ?_⟩, fun u hu => ?_⟩ (fun b' hb' => .inl hb'), hm⟩
  · unfold execOp
    simp only [ho, h1, Sem.run_bind, r1, Result.andThen_ok, Sem.run_pure]
  · simp only [List.length_append, List.length_take, List.length_drop]; omega
  · refine hm x u ?_
    have e1 : (cs.take off).length = off := by rw [List.length_take]; omega
    have e2 : (vs.take off).length = off := by rw [List.length_take]; omega
    by_cases c1 : j < off
    · rw [List.append_assoc, List.getElem?_append_left (by omega), List.getElem?_take, if_pos c1] at hj hu
      exact h3.at_ j x u hj hu
    · by_cases c2 : j < off + us.length
      · rw [List.append_assoc, List.getElem?_append_right (by omega), List.getElem?_append_left (by omega)] at hj hu
        rw [e1] at hj
        rw [e2] at hu
        exact g2.at_ _ x u hj hu
      · rw [List.getElem?_append_right (by simp only [List.length_append]; omega), List.length_append, List.getElem?_drop] at hj hu
        rw [e1] at hj
        rw [e2] at hu
        rw [← hlen] at hu
        exact h3.at_ _ x u hj hu
  · rcases List.mem_append.1 hu with hu | hu
    · rcases List.mem_append.1 hu with hu | hu
      · exact h4 u (List.mem_of_mem_take hu)
      · exact g3 u hu
    · exact h4 u (List.mem_of_mem_drop hu)
/-- .. into an own row. -/
theorem A_store_rp (hw : wantedA n T ops o = true) (hd : o.dst = none) (t : TypeId) (x y : Operand) (ho : o.op = .store t x y) {z : Option Value} {tsize bytes : Nat} (hI : (P.info? t).map (fun i => (i.zero, i.size, i.bytes)) = some (z, tsize, bytes)) (ht0 : tsize ≠ 0)
    {i k' idx off : Nat} (hx : evA n T x = .rp i k' idx off) {E : TypeId} {s : Nat} {els : List (List Tr)} (hi : heap[i]? = some (.row k' E s els)) {cs : List Tr} (he : els[idx]? = some cs) {us : List AV} (hy : (evA n T y).flat = some us) (hl : us.length = tsize) {ts : List Tr} (hts : trsA us = some ts) (hf : off + ts.length ≤ s)
    {els' : List (List Tr)} (hc : els.set idx (cs.take off ++ ts ++ cs.drop (off + ts.length)) = els') {heap' : List Ob} (hh : heap.set i (.row k' E s els') = heap') (k : AL P ops Q rest n T heap') : AL P ops Q (o :: rest) n T heap := by
  subst hc hh
  refine AL.unit hw hd (fun e a w ρ Z Y hR => ?_) k
  have hv := hR.eval x
  rw [hx] at hv
  obtain ⟨h1, xs, h2, h3, h4⟩ := hR.ok.rep.row hi
  obtain ⟨us', g1, g2, g3⟩ := (hR.eval y).flat hy
  obtain ⟨q1, q2⟩ := trsA_open hts g2
  have hs : (sizeOf t).run P w = .ok tsize w := run_size hI
  have hlen := g2.len
  have hlt := get_lt he
  have hle : idx * s + s ≤ els.length * s := by rw [← Nat.succ_mul]; exact Nat.mul_le_mul_right _ hlt
  generalize hax : a.eval x = vx at hv
  cases hv with
  | rp hk =>
  obtain ⟨w', r1, r2, r3⟩ := run_put_any hs g1 (by omega) g3 (m := idx * s + off) h3 (by omega) (fun e => by rw [e] at hlen; simp only [List.length_nil] at hlen; omega)
  have hblk : (Ob.row k' E s els).blk ρ i = (if (ρ i k').c = 0 then none else (ρ i k').a.map (·.block)) := rfl
  have hsame : ∀ b', b' < w.heap.size → (Ob.row k' E s els).blk ρ i ≠ some b' → w'.heap[b']? = w.heap[b']? := fun b' hb' hne => r3.block b' hb' (fun e => hne (by rw [hblk, e]))
  have hz : ∀ b, Z b → Z b ∧ w'.heap[b]? = w.heap[b]? := fun b hb => ⟨hb, hsame b (hR.ok.rep.ylt b (hR.ok.rep.zy b hb)) (hR.ok.rep.notin hi (hR.ok.rep.zy b hb))⟩
  refine ⟨w', ρ, Z, Y, ?_, hR.ok.turn hi (Nat.le_refl _) (fun _ _ _ => rfl) ⟨r3.os, r3.tape, r3.output⟩ r3.size hsame ⟨h1, _, ((h2.set he q1 hf q2).mono fun _ _ h => h.mono hz), by rw [List.length_set]; exact r2⟩ (fun b' hb' => .inl hb'), fun x v hv => ?_⟩
  · unfold execOp
    simp only [ho, hax, h1, Sem.run_bind, r1, Result.andThen_ok, Sem.run_pure]
  · exact hR.ok.rep.val (fun j k hj => ⟨hj.set hi (by exact Nat.le_refl _), rfl⟩) (fun _ h => h) (fun b' hb' => ⟨hb', hsame b' (hR.ok.rep.ylt b' hb') (hR.ok.rep.notin hi hb')⟩) hv
theorem A_len (hw : wantedA n T ops o = true) (hd : o.dst = some d) (t : TypeId) (x : Operand) (ho : o.op = .call { callee := .builtin .len, args := #[x], argTypes := #[t] }) {e : TypeId} (ht : P.underlying t = some (.slice e)) {m : Nat} (hx : lenA (evA n T x) = some m)
    (k : AL P ops Q rest n (pu T d (.t (.v (.int .i64 (m : Int))))) heap) : AL P ops Q (o :: rest) n T heap := by
  refine AL.val hw hd (fun en a w ρ Z Y hR => ?_) k
  obtain ⟨a', c, h1⟩ := lenA_open hx (hR.eval x)
  refine ⟨.int .i64 m, ?_, .t (.v rfl)⟩
  unfold execOp
  simp only [ho, resolve, invoke, builtin, Sem.run_bind, Sem.run_pure, Result.andThen_ok, List.map_toArray, List.map_cons, List.map_nil, h1]
  simp [Builtin.len_, Result.andThen, run_underlying ht, goInt]
end
end Go.Proofs.Ytkichjejadkdgaa
