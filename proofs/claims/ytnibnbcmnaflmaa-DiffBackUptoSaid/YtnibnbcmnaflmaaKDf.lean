/- Joined: XTArrV, XTMap. -/
import Derived.Test.YtnibnbcmnaflmaaKDc
import Derived.Test.YtnibnbcmnaflmaaKDd
namespace Go.Proofs.Ytnibnbcmnaflmaa
open Go.RowKit
set_option linter.unusedVariables false
set_option linter.unusedSimpArgs false
set_option linter.unnecessarySimpa false
set_option maxRecDepth 100000
set_option maxHeartbeats 64000000
section
theorem fill_mono {f g : Nat → Option (Nat × Nat)} (h : ∀ i x, g i = some x → f i = some x) : ∀ (l : List (Nat × Value)) (cs r : Array Value), Instr.fill g cs l = some r → Instr.fill f cs l = some r
 | [], cs, r, hr => hr
 | (i, v) :: l, cs, r, hr => by
  unfold Instr.fill at hr ⊢
  cases hg : g i with
  | none => rw [hg] at hr; cases hr
  | some x =>
   obtain ⟨off, size⟩ := x
   rw [hg] at hr
   rw [h i _ hg]
   dsimp only at hr ⊢
   split at hr
   ·cases hr
   ·rename_i hc
    rw [if_neg hc]
    exact fill_mono h l _ r hr
def arrOk (s : Nat) : Nat → List (Nat × Nat) → Bool
 | _, [] => true
 | i, p :: l => Nat.beq p.1 (i * s) && Nat.beq p.2 s && arrOk s (i + 1) l
theorem arrOk_get {s : Nat} : ∀ {l : List (Nat × Nat)} {i j : Nat} {x : Nat × Nat}, arrOk s i l = true → l[j]? = some x → x = ((i + j) * s, s)
 | [], i, j, x, _, hj => by simp at hj
 | p :: l, i, j, x, h, hj => by
  unfold arrOk at h
  simp only [Bool.and_eq_true, Nat.beq_eq_true_eq] at h
  obtain ⟨⟨h1, h2⟩, h3⟩ := h
  cases j with
  | zero => simp at hj; subst hj; exact Prod.ext (by simpa using Nat.eq_of_beq_eq_true h1) (Nat.eq_of_beq_eq_true h2)
  | succ j =>
   rw [List.getElem?_cons_succ] at hj
   have := arrOk_get h3 hj
   rw [this]; congr 2; omega
section
variable {P : Program} {ops : Array Oper} {Q : QS} {rest : List Oper} {o : Oper} {n : Fr} {T : Nat → AV} {heap : List Ob} {d : Nat}
theorem A_buildA (hw : wantedA n T ops o = true) (hd : o.dst = some d) {t : TypeId} {parts : Array (Nat × Operand)} (ho : o.op = .build t parts) {len : Nat} {el : TypeId} (hu : P.underlying t = some (.array len el)) {z : Value} {size bytes : Nat} (hI : (P.info? t).map (fun i => (i.zero, i.size, i.bytes)) = some (some z, size, bytes))
  {ez : Option Value} {es eb : Nat} (hE : (P.info? el).map (fun i => (i.zero, i.size, i.bytes)) = some (ez, es, eb)) {places : List (Nat × Nat)} (hp : arrOk es 0 places = true) {zs : List AV} (hz : (ofConst z).flat = some zs) {qs : List (Nat × List AV)} (hq : Parts n T parts.toList qs) {cs : List AV} (hf : fillA places zs qs = some cs)
  (k : AL P ops Q rest n (pu T d (.agg cs)) heap) : AL P ops Q (o :: rest) n T heap := by
 refine AL.val hw hd (fun en a w ρ Z Y hR => ?_) k
 obtain ⟨us, u1, u2, u3⟩ := (val_ofConst (Kn := Kn heap) (ρ := ρ) (w := w) (Z := Z) (Y := Y) z).flat hz
 obtain ⟨vs, q1, q2, q3⟩ := fillA_open hR hq hf u2 u3
 refine ⟨.agg vs.toArray, val_of (s := Instr.build t (parts.map (fun (i, x) => (i, a.eval x)))) (by unfold execOp; rw [ho]) ?_, .agg q2.len q3 q2.at_⟩
 obtain ⟨i, hi, hz', _, _⟩ := info_of hI
 have e2 : (zeroValue t).run P w = .ok z w := by simp [zeroValue, typeInfo, hi, hz']
 have e3 : (sizeOf el).run P w = .ok es w := run_size hE
 have e4 := fill_mono (f := fun i => some (i * es, es)) (fun i x hx => by
  have := arrOk_get hp (j := i) (x := x) (by simpa using hx)
  rw [this]; simp) _ _ _ (fill_of _ _ _ q1)
 have e5 : (parts.map (fun (i, x) => (i, a.eval x))).toList = parts.toList.map (fun x => (x.1, a.eval x.2)) := by simp
 simp only [Instr.build, Sem.run_bind, e2, Result.andThen_ok, run_underlying hu, e3, u1, e5, e4, Sem.run_pure]
theorem A_index (hw : wantedA n T ops o = true) (hd : o.dst = some d) {t : TypeId} {x ix : Operand} (ho : o.op = .index t x ix) {len : Nat} {el : TypeId} (hu : P.underlying t = some (.array len el)) {ds : TypeDesc} (hds : P.underlying el = some ds) (ha : (match ds with | .struct _ | .array _ _ => true | _ => false) = false) {ez : Option Value} {eb : Nat} (hE : (P.info? el).map (fun i => (i.zero, i.size, i.bytes)) = some (ez, 1, eb))
  {kd : IntKind} {I : Int} (hix : evA n T ix = .t (.v (.int kd I))) (h0I : 0 ≤ I) {J : Nat} (hJ : I.toNat = J) (hlt : J < len) {l : List AV} (hx : evA n T x = .agg l) {u : AV} (hc : l[J]? = some u) (k : AL P ops Q rest n (pu T d u) heap) : AL P ops Q (o :: rest) n T heap := by
 obtain rfl : I = (J : Int) := by omega
 refine AL.val hw hd (fun en a w ρ Z Y hR => ?_) k
 have hv := hR.eval x
 rw [hx] at hv
 generalize hax : a.eval x = vx at hv
 have hvi := hR.eval ix
 rw [hix] at hvi
 generalize hai : a.eval ix = vi at hvi
 cases hv with
 | @agg _ us h1 h2 h3 =>
 cases hvi with
 | t h => cases h with
  | v h =>
   have hJu : J < us.length := by have := (List.getElem?_eq_some_iff.1 hc).1; omega
   have hg : us[J]? = some us[J] := List.getElem?_eq_getElem hJu
   refine ⟨us[J], val_of (s := Instr.index t (a.eval x) (a.eval ix)) (by unfold execOp; rw [ho]) ?_, h3 J _ _ hc hg⟩
   have e3 : (sizeOf el).run P w = .ok 1 w := run_size hE
   rw [hax, hai]
   have hpart : (part el us.toArray J).run P w = .ok us[J] w := by
    have hag : (Go.isAgg el).run P w = .ok false w := by
     unfold Go.isAgg
     rw [Sem.run_bind, run_underlying hds]
     cases ds <;> simp_all [Result.andThen]
    simp [part, hag, Result.andThen, hg]
   simp only [Instr.index, asIntOf, Sem.run_bind, Sem.run_pure, Result.andThen_ok, run_underlying hu]
   rw [if_pos ⟨by omega, by omega⟩]
   simp only [Sem.run_bind, e3, Result.andThen_ok, Int.toNat_natCast, Nat.mul_one, hpart]
theorem R_buildA {F : List Dl → (Nat → AV) → List Ob → Prop} {acc : List Dl} (hw : wantedA n T ops o = true) (hd : o.dst = some d) {t : TypeId} {parts : Array (Nat × Operand)} (ho : o.op = .build t parts) {len : Nat} {el : TypeId} (hu : P.underlying t = some (.array len el)) {z : Value} {size bytes : Nat} (hI : (P.info? t).map (fun i => (i.zero, i.size, i.bytes)) = some (some z, size, bytes))
  {ez : Option Value} {es eb : Nat} (hE : (P.info? el).map (fun i => (i.zero, i.size, i.bytes)) = some (ez, es, eb)) {places : List (Nat × Nat)} (hp : arrOk es 0 places = true) {zs : List AV} (hz : (ofConst z).flat = some zs) {qs : List (Nat × List AV)} (hq : Parts n T parts.toList qs) {cs : List AV} (hf : fillA places zs qs = some cs)
  (k : RG P ops n F rest (acc ++ [⟨some d, .agg cs, [], []⟩]) (pu T d (.agg cs)) heap) : RG P ops n F (o :: rest) acc T heap :=
 RG.cons hd.symm (fun T' h' hT hH hlen_ => A_buildA (by rw [wanted_eqA hT]; exact hw) hd ho hu hI hE hp hz (Parts.agree hT (fun y hy => by rw [ho]; simpa [Op.operands] using hy) hq) hf (AL.nil ⟨rfl, rfl, rfl⟩)) rfl rfl k
theorem R_index {F : List Dl → (Nat → AV) → List Ob → Prop} {acc : List Dl} (hw : wantedA n T ops o = true) (hd : o.dst = some d) {t : TypeId} {x ix : Operand} (ho : o.op = .index t x ix) {len : Nat} {el : TypeId} (hu : P.underlying t = some (.array len el)) {ds : TypeDesc} (hds : P.underlying el = some ds) (ha : (match ds with | .struct _ | .array _ _ => true | _ => false) = false) {ez : Option Value} {eb : Nat} (hE : (P.info? el).map (fun i => (i.zero, i.size, i.bytes)) = some (ez, 1, eb))
  {kd : IntKind} {I : Int} (hix : evA n T ix = .t (.v (.int kd I))) (h0I : 0 ≤ I) {J : Nat} (hJ : I.toNat = J) (hlt : J < len) {l : List AV} (hx : evA n T x = .agg l) {u : AV} (hc : l[J]? = some u) (k : RG P ops n F rest (acc ++ [⟨some d, u, [], []⟩]) (pu T d u) heap) : RG P ops n F (o :: rest) acc T heap :=
 RG.cons hd.symm (fun T' h' hT hH hlen_ => A_index (by rw [wanted_eqA hT]; exact hw) hd ho hu hds ha hE (by rw [ev_eq hT (by simp [ho, Op.operands, Call.operands])]; exact hix) h0I hJ hlt (by rw [ev_eq hT (by simp [ho, Op.operands, Call.operands])]; exact hx) hc (AL.nil ⟨rfl, rfl, rfl⟩)) rfl rfl k
end
end
section
def lookE (es : List (Int × Int)) (k : Int) : Option Int := (es.find? fun p => decide (p.1 = k)).map (·.2)
theorem findNow_es (k : Int) : ∀ (l : List MapEntry) (es : List (Int × Int)) (i : Nat), l.map (fun e => (e.key, e.val)) = es.map (fun p => (Value.int .i64 p.1, Value.int .i64 p.2)) →
  ∃ r, Instr.findNow (.int .i64) (.int .i64 k) l i = some r ∧ r.map (·.2) = (lookE es k).map (Value.int .i64)
 | [], [], i, _ => ⟨none, rfl, rfl⟩
 | [], _ :: _, _, h => by simp at h
 | _ :: _, [], _, h => by simp at h
 | e :: l, p :: es, i, h => by
  simp only [List.map_cons, List.cons.injEq, Prod.mk.injEq] at h
  obtain ⟨⟨h1, h2⟩, h3⟩ := h
  unfold Instr.findNow
  rw [h1]
  by_cases g : p.1 = k
  ·have : Instr.sameNow (.int .i64) (.int .i64 k) (.int .i64 p.1) = some true := by simp [Instr.sameNow, g]
   rw [this]
   refine ⟨some (i, e.val), rfl, ?_⟩
   unfold lookE
   rw [List.find?_cons, decide_eq_true g, h2]; rfl
  ·have : Instr.sameNow (.int .i64) (.int .i64 k) (.int .i64 p.1) = some false := by simp [Instr.sameNow]; omega
   rw [this]
   obtain ⟨r, q1, q2⟩ := findNow_es k l es (i + 1) h3
   refine ⟨r, q1, ?_⟩
   unfold lookE at q2 ⊢
   rw [List.find?_cons, decide_eq_false g, q2]
section
variable {P : Program} {w : World}
theorem run_checkKey_int {kt : TypeId} (hk : P.underlying kt = some (.int .i64)) (b : Bool) (d : Nat) (k : Int) : (Instr.checkKey b (d + 1) kt (.int .i64 k)).run P w = .ok () w := by
 simp [Instr.checkKey, run_underlying hk, Result.andThen]
theorem run_findKey_int {kt : TypeId} (hk : P.underlying kt = some (.int .i64)) (k : Int) {l : List MapEntry} {es : List (Int × Int)} (h : l.map (fun e => (e.key, e.val)) = es.map (fun p => (Value.int .i64 p.1, Value.int .i64 p.2))) :
  ∃ r : Option (Nat × Value), (Instr.findKey kt (.int .i64 k) l).run P w = .ok r w ∧ r.map (·.2) = (lookE es k).map (Value.int .i64) := by
 obtain ⟨r, h1, h2⟩ := findNow_es k l es 0 h
 refine ⟨r, ?_, h2⟩
 simp [Instr.findKey, run_underlying hk, Result.andThen, h1]
end
section
variable {P : Program} {ops : Array Oper} {Q : QS} {rest : List Oper} {o : Oper} {n : Fr} {T : Nat → AV} {heap : List Ob} {d : Nat}
theorem A_mkmap (hw : wantedA n T ops o = true) (hd : o.dst = some d) {t : TypeId} (ho : o.op = .makeMap t none) {heap' : List Ob} {N : Nat} (hat : AtL heap N [.mp []] heap') (k : AL P ops Q rest n (pu T d (.mv N)) heap') : AL P ops Q (o :: rest) n T heap := by
 refine AL.act hw hd (fun e a w ρ Z Y hR => ?_) k
 obtain ⟨ρ', k1, k2, k3, k4⟩ := hR.ok.push1 (o := .mp []) hat (w' := w.alloc (.map #[] 0)) (pl := ⟨some ⟨w.heap.size, 0, none⟩, 0, 0⟩) ⟨rfl, rfl, rfl⟩ (by simp) (fun b hb => heap_alloc_old w _ hb) (fun ρ' hN hρ => ⟨w.heap.size, #[], 0, by rw [hN], heap_alloc_new w _, rfl⟩) (fun b hb _ => by simp at hb; subst hb; simp)
 refine ⟨.map (some w.heap.size), _, ρ', Z, Y, ?_, k1, k2, .mv ⟨_, hat.one, Nat.le_refl _⟩ (by rw [k3])⟩
 refine val_of (s := Instr.makeMap t none) (by unfold execOp; rw [ho]; rfl) ?_
 simp [Instr.makeMap, Result.andThen]
theorem HRep.mp {w : World} {ρ : Rho} {Z Y : Nat → Prop} (h : HRep heap w ρ Z Y) {i : Nat} {es : List (Int × Int)} (hi : heap[i]? = some (.mp es)) {v : Value} (hv : Val (Kn heap) ρ w Z Y (.mv i) v) :
  ∃ b arr clock, v = .map (some b) ∧ (ρ i 0).a = some ⟨b, 0, none⟩ ∧ w.heap[b]? = some (.map arr clock) ∧ arr.toList.map (fun e => (e.key, e.val)) = es.map (fun p => (Value.int .i64 p.1, Value.int .i64 p.2)) := by
 obtain ⟨b, arr, c, h1, h2, h3⟩ := h.obs i _ hi
 cases hv with
 | mv hk ha => rw [h1] at ha; cases ha; exact ⟨_, arr, c, rfl, h1, h2, h3⟩
theorem A_lookup (hw : wantedA n T ops o = true) (hd : o.dst = some d) {t : TypeId} {m ix : Operand} (ho : o.op = .lookup t m ix true) {kt et : TypeId} (ht : P.underlying t = some (.map kt et)) (hkt : P.underlying kt = some (.int .i64)) {size bytes : Nat} (hE : (P.info? et).map (fun i => (i.zero, i.size, i.bytes)) = some (some (.int .i64 0), size, bytes))
  {i : Nat} (hm : evA n T m = .mv i) {es : List (Int × Int)} (hi : heap[i]? = some (.mp es)) {k : Int} (hix : evA n T ix = .t (.v (.int .i64 k))) {r : Option Int} (hr : lookE es k = r) {v : Int} {b : Bool} (hv : r.getD 0 = v) (hb : r.isSome = b)
  (k' : AL P ops Q rest n (pu T d (.tup [.t (.v (.int .i64 v)), .t (.v (.bool b))])) heap) : AL P ops Q (o :: rest) n T heap := by
 subst hr hv hb
 refine AL.val hw hd (fun en a w ρ Z Y hR => ?_) k'
 have h1 := hR.eval m
 rw [hm] at h1
 obtain ⟨b, arr, c, e1, e2, e3, e4⟩ := hR.ok.rep.mp hi h1
 have h2 := hR.eval ix
 rw [hix] at h2
 generalize hai : a.eval ix = vi at h2
 cases h2 with
 | t h => cases h with
  | v h =>
   obtain ⟨q, f1, f2⟩ := run_findKey_int (P := P) (w := w) hkt k e4
   obtain ⟨inf, hin, hz, _, _⟩ := info_of hE
   have hzero : (zeroValue et).run P w = .ok (.int .i64 0) w := by simp [zeroValue, typeInfo, hin, hz]
   have hget : (getObj b).run P w = .ok (.map arr c) w := by simp [getObj, Sem.run, e3]
   have hck := run_checkKey_int (P := P) (w := w) hkt arr.isEmpty 9999 k
   refine ⟨.tuple #[.int .i64 ((lookE es k).getD 0), .bool (lookE es k).isSome], val_of (s := Instr.lookup t (a.eval m) (a.eval ix) true) (by unfold execOp; rw [ho]) ?_, .tup (us := [.int .i64 ((lookE es k).getD 0), .bool (lookE es k).isSome]) rfl (fun j x u hj hu => ?_)⟩
   ·rw [e1, hai]
    cases q with
    | none =>
     have hl : lookE es k = none := by cases hl : lookE es k <;> rw [hl] at f2 <;> simp at f2 <;> rfl
     simp [Instr.lookup, run_underlying ht, hget, hck, f1, hzero, Result.andThen, hl]
    | some p =>
     obtain ⟨x, hl⟩ : ∃ x, lookE es k = some x := by cases hl : lookE es k <;> rw [hl] at f2 <;> simp at f2; exact ⟨_, rfl⟩
     rw [hl] at f2
     simp at f2
     simp [Instr.lookup, run_underlying ht, hget, hck, f1, Result.andThen, hl, f2]
   ·match j with
    | 0 => cases hj; cases hu; exact .t (.v rfl)
    | 1 => cases hj; cases hu; exact .t (.v rfl)
    | j + 2 => simp at hj
theorem A_mapnew (hw : wantedA n T ops o = true) (hd : o.dst = none) {t : TypeId} {m ix x : Operand} (ho : o.op = .mapUpdate t m ix x) {kt et : TypeId} (ht : P.underlying t = some (.map kt et)) (hkt : P.underlying kt = some (.int .i64))
  {i : Nat} (hm : evA n T m = .mv i) {es : List (Int × Int)} (hi : heap[i]? = some (.mp es)) {k v : Int} (hix : evA n T ix = .t (.v (.int .i64 k))) (hx : evA n T x = .t (.v (.int .i64 v))) (hr : lookE es k = none) {heap' : List Ob} (hh : heap.set i (.mp (es ++ [(k, v)])) = heap')
  (k' : AL P ops Q rest n T heap') : AL P ops Q (o :: rest) n T heap := by
 subst hh
 refine AL.unit hw hd (fun en a w ρ Z Y hR => ?_) k'
 have h1 := hR.eval m
 rw [hm] at h1
 obtain ⟨b, arr, c, e1, e2, e3, e4⟩ := hR.ok.rep.mp hi h1
 have h2 := hR.eval ix
 rw [hix] at h2
 have h3 := hR.eval x
 rw [hx] at h3
 generalize hai : a.eval ix = vi at h2
 generalize hax : a.eval x = vx at h3
 have hvi : vi = .int .i64 k := by cases h2 with | t h => cases h with | v h => rfl
 have hvx : vx = .int .i64 v := by cases h3 with | t h => cases h with | v h => rfl
 subst hvi hvx
 obtain ⟨q, f1, f2⟩ := run_findKey_int (P := P) (w := w) hkt k e4
 rw [hr] at f2
 have hq : q = none := by cases q <;> simp at f2; rfl
 subst hq
 have hget : (getObj b).run P w = .ok (.map arr c) w := by simp [getObj, Sem.run, e3]
 have hck := run_checkKey_int (P := P) (w := w) hkt false 9999 k
 have hlt : b < w.heap.size := by
  rcases Nat.lt_or_ge b w.heap.size with h | h
  ·exact h
  ·rw [Array.getElem?_eq_none h] at e3; cases e3
 have hblk : (Ob.mp es).blk ρ i = some b := by simp [Ob.blk, e2]
 have hset : (setObj b (.map (arr.push ⟨.int .i64 k, .int .i64 v, c⟩) (c + 1))).run P w = .ok () { w with heap := w.heap.setIfInBounds b (.map (arr.push ⟨.int .i64 k, .int .i64 v, c⟩) (c + 1)) } := by simp [setObj, Sem.run, e3]
 have hsame : ∀ b', b' < w.heap.size → (Ob.mp es).blk ρ i ≠ some b' → (w.heap.setIfInBounds b (.map (arr.push ⟨.int .i64 k, .int .i64 v, c⟩) (c + 1)))[b']? = w.heap[b']? := fun b' _ hne => by
  rw [Array.getElem?_setIfInBounds, if_neg (fun e => hne (by rw [hblk, e]))]
 have hval : ∀ x u, Val (Kn heap) ρ w Z Y x u → Val (Kn (heap.set i (.mp (es ++ [(k, v)])))) ρ { w with heap := w.heap.setIfInBounds b (.map (arr.push ⟨.int .i64 k, .int .i64 v, c⟩) (c + 1)) } Z Y x u := fun x u hu =>
  hR.ok.rep.val (fun j q hj => ⟨hj.set hi (by exact Nat.le_refl _), rfl⟩) (fun _ h => h) (fun b' hb' => ⟨hb', hsame b' (hR.ok.rep.ylt b' hb') (hR.ok.rep.notin hi hb')⟩) hu
 refine ⟨{ w with heap := w.heap.setIfInBounds b (.map (arr.push ⟨.int .i64 k, .int .i64 v, c⟩) (c + 1)) }, ρ, Z, Y, ?_, hR.ok.turn hi (Nat.le_refl _) (fun _ _ _ => rfl) ⟨rfl, rfl, rfl⟩ (by simp) hsame ⟨b, arr.push ⟨.int .i64 k, .int .i64 v, c⟩, c + 1, e2, ?_, ?_⟩ (fun b' hb' => .inl hb'), hval⟩
 ·unfold execOp
  simp [ho, e1, hai, hax, Instr.mapUpdate, run_underlying ht, hget, hck, f1, hset, Result.andThen]
 ·show (w.heap.setIfInBounds b _)[b]? = _
  rw [Array.getElem?_setIfInBounds, if_pos rfl, if_pos hlt]
 ·rw [Array.toList_push, List.map_append, e4, List.map_append]; rfl
end
end
end Go.Proofs.Ytnibnbcmnaflmaa
