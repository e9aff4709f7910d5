/- Joined: XTCopy, XTArrV, XTMap. -/
import Derived.Test.YtnibnbcmnaflmaaKEc
import Derived.Test.YtnibnbcmnaflmaaKEd
import Derived.Laws.IdiomCopy
import Derived.Laws.CopyRow
import Derived.WalkSpells
namespace Go.Proofs.Ytnibnbcmnaflmaa
open Go.RowKit
set_option linter.unusedVariables false
set_option linter.unusedSimpArgs false
set_option linter.unnecessarySimpa false
set_option maxRecDepth 100000
set_option maxHeartbeats 64000000
section
section
variable {P : Program} {w : World}
theorem run_copy_any {dT sT ty e E : TypeId} (hu : P.underlying dT = some (.slice e)) (hI : (P.info? e).map (·.size) = some 1) {sa : Option Addr} {n c : Nat} {xs : List Value} (hown : (Res.row sa n c E 1 xs).holds 0 w) {off q cq : Nat} (hoq : off + q ≤ n)
  {da : Option Addr} (hda : q ≠ 0 → da = some ((adr sa).add off)) {xa : Option Addr} {xc : Nat} {ys : List Value} (hr : Rs w 1 xa ys.length xc ys) (h1 : ∀ u ∈ ys, u.oneCell' = true) (hle : ys.length ≤ q) :
  ∃ w', (Builtin.copy_ #[dT, sT] ty #[.slice da q cq, .slice xa ys.length xc]).run P w = .ok (goInt ys.length) w' ∧ (Res.row sa n c E 1 (xs.take off ++ ys ++ xs.drop (off + ys.length))).holds 0 w' ∧ w.grownBy w' (if c = 0 then none else sa.map (·.block)) := by
 by_cases hy : ys = []
 ·subst hy
  refine ⟨w, run_copy_none w dT sT ty e da xa q cq 0 xc hu hI (Nat.zero_min q), ?_, ⟨rfl, rfl, rfl, Nat.le_refl _, fun _ _ _ => rfl⟩⟩
  simpa using hown
 have hpos : 0 < ys.length := List.length_pos_iff.2 hy
 rcases hown with ⟨_, hn0, _⟩ | ⟨hcp, hown⟩
 ·omega
 have hc0 : c ≠ 0 := by omega
 rcases hown.2 with ⟨he, hn0⟩ | ⟨g, cap, cur, he, hbg, hg, hnc, hcm, hcs, htake⟩
 ·omega
 simp only [Value.slice.injEq] at he
 obtain ⟨rfl, _, rfl⟩ := he
 have hsz : n * 1 ≤ cur.size := by rw [hcs]; exact Nat.mul_le_mul_right _ hnc
 have hxl := hown.1
 have hst := run_storeCells_at P g off E ys 0 cur w hg (by omega) h1
 simp only [Nat.add_zero] at hst
 have hadd : (adr (some ⟨g, 0, none⟩)).add off = ⟨g, off, none⟩ := by
  show (⟨g, 0, none⟩ : Addr).add off = _
  rw [add_at]; simp
 rw [hadd] at hda
 obtain rfl := hda (by omega)
 have hxa : ∃ a, xa = some a := by
  cases xa with
  | none => have := (hr.none rfl).1; omega
  | some a => exact ⟨a, rfl⟩
 obtain ⟨a, rfl⟩ := hxa
 have hld := run_loadCells_list (P := P) (w := w) a ys (fun j u hj => hr.cells j u hj)
 have hxs : xs = cur.toList.take (n * 1) := htake.symm
 have hrow : (w.setRow g (cur.toList.take off ++ ys ++ cur.toList.drop (off + ys.length)).toArray).ownsRow 0 E 1 (.slice (some ⟨g, 0, none⟩) n c) n (xs.take off ++ ys ++ xs.drop (off + ys.length)) := by
  refine ⟨by simp only [List.length_append, List.length_take, List.length_drop]; omega, .inr ⟨g, c, _, rfl, hbg, setRow_heap w g cur _ E _ hg, hnc, hcm, ?_, ?_⟩⟩
  ·simp only [List.size_toArray, List.length_append, List.length_take, List.length_drop, Array.length_toList]
   omega
  ·rw [hxs]
   apply List.ext_getElem?
   intro i
   simp only [List.getElem?_take, List.getElem?_append, List.length_append, List.length_take, List.getElem?_drop, Array.length_toList]
   have e1 : min off cur.size = off := by omega
   have e2 : min off (min (n * 1) cur.size) = off := by omega
   rw [e1, e2]
   repeat' split
   all_goals first | rfl | (exfalso; omega) | (congr 1; omega)
 refine ⟨w.setRow g (cur.toList.take off ++ ys ++ cur.toList.drop (off + ys.length)).toArray, ?_, .inr ⟨hcp, hrow⟩, ⟨rfl, rfl, rfl, by simp, fun k _ hk => setRow_other w g k _ (fun e => hk (by simp [e, hc0]))⟩⟩
 have hmin : Nat.min ys.length q = ys.length := Nat.min_eq_left hle
 cases hq : P.info? e with
 | none => simp [hq] at hI
 | some i =>
  have hi : i.size = 1 := by simpa [hq] using hI
  simp [Builtin.copy_, run_underlying hu, Builtin.lenOf, Builtin.firstCells, sizeOf, typeInfo, hq, hi, hmin, hld, hst]
end
section
variable {P : Program} {ops : Array Oper} {Q : QS} {rest : List Oper} {o : Oper} {n : Fr} {T : Nat → AV} {heap : List Ob} {d : Nat}
theorem A_copy (hw : wantedA n T ops o = true) (hd : o.dst = some d) {s x : Operand} {t t2 : TypeId} (ho : o.op = .call { callee := .builtin .copy, args := #[s, x], argTypes := #[t, t2] }) {e : TypeId} (ht : P.underlying t = some (.slice e)) {z : Option Value} {bytes : Nat} (hI : (P.info? e).map (fun i => (i.zero, i.size, i.bytes)) = some (z, 1, bytes))
  {i k' off m : Nat} (hs : evA n T s = .sub i k' off m) {E : TypeId} {els : List (List Tr)} (hi : heap[i]? = some (.row k' E 1 els)) (hm : off + m ≤ els.length) {news : List (List Tr)} (hx : Rd heap 1 (evA n T x) news) (hle : news.length ≤ m)
  {els' : List (List Tr)} (he : els.take off ++ news ++ els.drop (off + news.length) = els') {heap' : List Ob} (hh : heap.set i (.row k' E 1 els') = heap') {q : Nat} (hq : news.length = q) (k : AL P ops Q rest n (pu T d (.t (.v (.int .i64 (q : Int))))) heap') : AL P ops Q (o :: rest) n T heap := by
 subst he hh hq
 refine AL.act hw hd (fun en a w ρ Z Y hR => ?_) k
 have hsz : (P.info? e).map (·.size) = some 1 := by
  cases hq : P.info? e with
  | none => rw [hq] at hI; simp at hI
  | some i => rw [hq] at hI; simp at hI; simp [hI.2.1]
 have hrep := hR.ok.rep
 obtain ⟨h1, xs, h2, h3, h4⟩ := hrep.row hi
 obtain ⟨xa, xc, ys, g1, g2, g3⟩ := hx.open hrep (hR.eval x)
 have hyl : ys.length = news.length := by have := g3.len; omega
 have hv := hR.eval s
 rw [hs] at hv
 generalize hax : a.eval s = vx at hv
 cases hv with
 | sub hk hn hmx h0 ha =>
 rename_i da cq
 rw [h1] at ha
 obtain ⟨w', r1, r2, r3⟩ := run_copy_any (P := P) (sT := t2) (ty := o.type) (cq := cq) ht hsz h3 hm (fun hq => by simpa using ha hq) (by rw [hyl]; exact g2) g3.one (by omega)
 have hblk : (Ob.row k' E 1 els).blk ρ i = (if (ρ i k').c = 0 then none else (ρ i k').a.map (·.block)) := rfl
 have hsame : ∀ b', b' < w.heap.size → (Ob.row k' E 1 els).blk ρ i ≠ some b' → w'.heap[b']? = w.heap[b']? := fun b' hb' hne => r3.block b' hb' (fun e => hne (by rw [hblk, e]))
 have hz : ∀ b, Z b → Z b ∧ w'.heap[b]? = w.heap[b]? := fun b hb => ⟨hb, hsame b (hrep.ylt b (hrep.zy b hb)) (hrep.notin hi (hrep.zy b hb))⟩
 have hval : ∀ x v, Val (Kn heap) ρ w Z Y x v → Val (Kn (heap.set i (.row k' E 1 (els.take off ++ news ++ els.drop (off + news.length))))) ρ w' Z Y x v := fun x v hv =>
  hrep.val (fun j k hj => ⟨hj.set hi (by exact Nat.le_refl _), rfl⟩) (fun _ h => h) (fun b' hb' => ⟨hb', hsame b' (hrep.ylt b' hb') (hrep.notin hi hb')⟩) hv
 have hlen : (els.take off ++ news ++ els.drop (off + news.length)).length = els.length := by simp only [List.length_append, List.length_take, List.length_drop]; omega
 have hel : Elems (Frz w' Z) 1 (els.take off ++ news ++ els.drop (off + news.length)) (xs.take off ++ ys ++ xs.drop (off + ys.length)) := by
  have e1 := ((h2.take off).append g3).append (h2.drop (off + news.length))
  rw [Nat.mul_one, Nat.mul_one, ← hyl] at e1
  rw [← hyl]
  exact e1.mono fun _ _ h => h.mono hz
 refine ⟨.int .i64 (news.length : Int), w', ρ, Z, Y, ?_, hR.ok.turn hi (Nat.le_refl _) (fun _ _ _ => rfl) ⟨r3.os, r3.tape, r3.output⟩ r3.size hsame ⟨h1, _, hel, by rw [hlen]; exact r2⟩ (fun b' hb' => .inl hb'), hval, .t (.v rfl)⟩
 unfold execOp
 rw [hyl] at r1
 simp only [ho, resolve, invoke, builtin, Sem.run_bind, Sem.run_pure, Result.andThen_ok, List.map_toArray, List.map_cons, List.map_nil, hax, g1, r1, goInt]
def isNilA : AV → Option Bool
 | .ptr _ _ => some false
 | .rp _ _ _ _ => some false
 | .lp _ => some false
 | .t (.v (.pointer none)) => some true
 | _ => none
theorem isNilA_open {Kn : Nat → Nat → Prop} {ρ : Rho} {w : World} {Z Y : Nat → Prop} {x : AV} {b : Bool} (h : isNilA x = some b) {v : Value} (hv : Val Kn ρ w Z Y x v) : ∃ p, v = .pointer p ∧ p.isNone = b := by
 cases hv with
 | ptr hk ha => simp [isNilA] at h; exact ⟨_, rfl, h ▸ rfl⟩
 | rp hk => simp [isNilA] at h; exact ⟨_, rfl, h ▸ rfl⟩
 | lp => simp [isNilA] at h; exact ⟨_, rfl, h ▸ rfl⟩
 | t h' => cases h' with
  | v hx =>
   cases v <;> simp [isNilA] at h
   rename_i p
   cases p <;> simp [isNilA] at h
   exact ⟨none, rfl, h ▸ rfl⟩
  | lst => simp [isNilA] at h
 | _ => simp [isNilA] at h
theorem guard_ptr {P : Program} {op : BinOp} {xt : TypeId} {x y : Operand} {a b : Option Addr} {w : World} : (eqGuard op xt x y (.pointer a) (.pointer b)).run P w = .ok () w := by
 unfold eqGuard
 cases op <;> simp
theorem run_ptr_nil0 {P : Program} {t e : TypeId} (ht : P.underlying t = some (.pointer e)) (p : Option Addr) (w : World) (d : Nat) : (Op.equalIn (d + 1) t (.pointer p) (.pointer none)).run P w = .ok p.isNone w := by
 cases p <;> simp [Op.equalIn, run_underlying ht, Result.andThen]
theorem run_ptr_nil {P : Program} {t e : TypeId} (ht : P.underlying t = some (.pointer e)) (p : Option Addr) (w : World) : (Op.equal t (.pointer p) (.pointer none)).run P w = .ok p.isNone w := run_ptr_nil0 ht p w 9999
theorem A_pnil (hw : wantedA n T ops o = true) (hd : o.dst = some d) {op : BinOp} {t yt : TypeId} {x : Operand} (ho : o.op = .binOp op t x (.const (.pointer none)) yt) {e : TypeId} (ht : P.underlying t = some (.pointer e)) {b : Bool} (hx : isNilA (evA n T x) = some b) {c : Bool} (hc : (op = .eql ∧ b = c) ∨ (op = .neq ∧ (!b) = c))
  (k : AL P ops Q rest n (pu T d (.t (.v (.bool c)))) heap) : AL P ops Q (o :: rest) n T heap := by
 refine AL.val hw hd (fun en a w ρ Z Y hR => ?_) k
 obtain ⟨p, h1, h2⟩ := isNilA_open hx (hR.eval x)
 refine ⟨.bool c, ?_, .t (.v rfl)⟩
 refine val_of (s := do eqGuard op t x (.const (.pointer none)) (a.eval x) (a.eval (.const (.pointer none))); binOp op t (a.eval x) (a.eval (.const (.pointer none)))) (by unfold execOp; rw [ho]) ?_
 rw [h1]
 show (do eqGuard op t x (.const (.pointer none)) (.pointer p) (.pointer none); binOp op t (.pointer p) (.pointer none) : Sem Value).run P w = _
 simp only [Sem.run_bind, guard_ptr, Result.andThen_ok]
 rcases hc with ⟨rfl, rfl⟩ | ⟨rfl, rfl⟩
 ·simp only [binOp, Sem.run_bind, run_ptr_nil ht, Result.andThen_ok, Sem.run_pure, h2]
 ·simp only [binOp, Sem.run_bind, run_ptr_nil ht, Result.andThen_ok, Sem.run_pure, h2]
theorem nil_len {Kn : Nat → Nat → Prop} {ρ : Rho} {w : World} {Z Y : Nat → Prop} {x : AV} {m c : Nat} (hx : lenA x = some m) (hv : Val Kn ρ w Z Y x (.slice none m c)) : m = 0 := by
 generalize hq : Value.slice none m c = q at hv
 cases hv <;> simp [lenA] at hx
 ·rename_i x h'
  cases x with
  | v => cases hx
  | lst els =>
   obtain ⟨a', c', s', xs, e1, h2, _, _⟩ := h'.open
   rw [← hq] at e1
   simp only [Value.slice.injEq] at e1
   obtain ⟨rfl, e2, rfl⟩ := e1
   rw [e2]; exact (h2.none rfl).1
 ·omega
 ·rename_i hr hz hn he
  simp only [Value.slice.injEq] at hq
  obtain ⟨rfl, rfl, rfl⟩ := hq
  exact (hr.none rfl).1
 ·rename_i i k' hk hc h0
  simp only [Value.slice.injEq] at hq
  have := h0 hq.1.symm
  omega
 ·rename_i hn hmx h0 ha
  simp only [Value.slice.injEq] at hq
  obtain ⟨rfl, rfl, rfl⟩ := hq
  exact (h0 rfl).1
theorem A_snil (hw : wantedA n T ops o = true) (hd : o.dst = some d) {op : BinOp} {t yt : TypeId} {x : Operand} {n' c' : Nat} (ho : o.op = .binOp op t x (.const (.slice none n' c')) yt) {e : TypeId} (ht : P.underlying t = some (.slice e)) {m : Nat} (hx : lenA (evA n T x) = some m) (hm : 0 < m) {c : Bool} (hc : (op = .eql ∧ c = false) ∨ (op = .neq ∧ c = true))
  (k : AL P ops Q rest n (pu T d (.t (.v (.bool c)))) heap) : AL P ops Q (o :: rest) n T heap := by
 refine AL.val hw hd (fun en a w ρ Z Y hR => ?_) k
 obtain ⟨sa, c2, h1⟩ := lenA_open hx (hR.eval x)
 have hsa : sa.isNone = false := by
  cases sa with
  | some a => rfl
  | none => have hv := hR.eval x; rw [h1] at hv; have := nil_len hx hv; omega
 refine ⟨.bool c, ?_, .t (.v rfl)⟩
 refine val_of (s := do eqGuard op t x (.const (.slice none n' c')) (a.eval x) (a.eval (.const (.slice none n' c'))); binOp op t (a.eval x) (a.eval (.const (.slice none n' c')))) (by unfold execOp; rw [ho]) ?_
 rw [h1]
 show (do eqGuard op t x (.const (.slice none n' c')) (.slice sa m c2) (.slice none n' c'); binOp op t (.slice sa m c2) (.slice none n' c') : Sem Value).run P w = _
 simp only [Sem.run_bind, guard_slice, Result.andThen_ok]
 rcases hc with ⟨rfl, rfl⟩ | ⟨rfl, rfl⟩
 ·rw [Lib.run_eql_slice_nil w t e sa m c2 n' c' ht, hsa]
 ·rw [run_neq_slice_nil_any w t e sa m c2 n' c' ht, hsa]; rfl
theorem R_pnil {F : List Dl → (Nat → AV) → List Ob → Prop} {acc : List Dl} (hw : wantedA n T ops o = true) (hd : o.dst = some d) {op : BinOp} {t yt : TypeId} {x : Operand} (ho : o.op = .binOp op t x (.const (.pointer none)) yt) {e : TypeId} (ht : P.underlying t = some (.pointer e)) {b : Bool} (hx : isNilA (evA n T x) = some b) {c : Bool} (hc : (op = .eql ∧ b = c) ∨ (op = .neq ∧ (!b) = c)) (k : RG P ops n F rest (acc ++ [⟨some d, .t (.v (.bool c)), [], []⟩]) (pu T d (.t (.v (.bool c)))) heap) : RG P ops n F (o :: rest) acc T heap :=
 RG.cons hd.symm (fun T' h' hT hH hlen_ => A_pnil (by rw [wanted_eqA hT]; exact hw) hd ho ht (by rw [ev_eq hT (by simp [ho, Op.operands, Call.operands])]; exact hx) hc (AL.nil ⟨rfl, rfl, rfl⟩)) rfl rfl k
theorem R_snil {F : List Dl → (Nat → AV) → List Ob → Prop} {acc : List Dl} (hw : wantedA n T ops o = true) (hd : o.dst = some d) {op : BinOp} {t yt : TypeId} {x : Operand} {n' c' : Nat} (ho : o.op = .binOp op t x (.const (.slice none n' c')) yt) {e : TypeId} (ht : P.underlying t = some (.slice e)) {m : Nat} (hx : lenA (evA n T x) = some m) (hm : 0 < m) {c : Bool} (hc : (op = .eql ∧ c = false) ∨ (op = .neq ∧ c = true)) (k : RG P ops n F rest (acc ++ [⟨some d, .t (.v (.bool c)), [], []⟩]) (pu T d (.t (.v (.bool c)))) heap) : RG P ops n F (o :: rest) acc T heap :=
 RG.cons hd.symm (fun T' h' hT hH hlen_ => A_snil (by rw [wanted_eqA hT]; exact hw) hd ho ht (by rw [ev_eq hT (by simp [ho, Op.operands, Call.operands])]; exact hx) hm hc (AL.nil ⟨rfl, rfl, rfl⟩)) rfl rfl k
end
end
section
theorem fill_mono {f g : Nat → Option (Nat × Nat)} (h : ∀ i x, g i = some x → f i = some x) : ∀ (l : List (Nat × Value)) (cs r : Array Value), Instr.fill g cs l = some r → Instr.fill f cs l = some r
 | [], cs, r, hr => hr
 | (i, v) :: l, cs, r, hr => by
  unfold Instr.fill at hr ⊢
  cases hg : g i with
  | none => rw [hg] at hr; cases hr
  | some x =>
   obtain ⟨off, size⟩ := x
   rw [hg] at hr
   rw [h i _ hg]
   dsimp only at hr ⊢
   split at hr
   ·cases hr
   ·rename_i hc
    rw [if_neg hc]
    exact fill_mono h l _ r hr
def arrOk (s : Nat) : Nat → List (Nat × Nat) → Bool
 | _, [] => true
 | i, p :: l => Nat.beq p.1 (i * s) && Nat.beq p.2 s && arrOk s (i + 1) l
theorem arrOk_get {s : Nat} : ∀ {l : List (Nat × Nat)} {i j : Nat} {x : Nat × Nat}, arrOk s i l = true → l[j]? = some x → x = ((i + j) * s, s)
 | [], i, j, x, _, hj => by simp at hj
 | p :: l, i, j, x, h, hj => by
  unfold arrOk at h
  simp only [Bool.and_eq_true, Nat.beq_eq_true_eq] at h
  obtain ⟨⟨h1, h2⟩, h3⟩ := h
  cases j with
  | zero => simp at hj; subst hj; exact Prod.ext (by simpa using Nat.eq_of_beq_eq_true h1) (Nat.eq_of_beq_eq_true h2)
  | succ j =>
   rw [List.getElem?_cons_succ] at hj
   have := arrOk_get h3 hj
   rw [this]; congr 2; omega
section
variable {P : Program} {ops : Array Oper} {Q : QS} {rest : List Oper} {o : Oper} {n : Fr} {T : Nat → AV} {heap : List Ob} {d : Nat}
theorem A_buildA (hw : wantedA n T ops o = true) (hd : o.dst = some d) {t : TypeId} {parts : Array (Nat × Operand)} (ho : o.op = .build t parts) {len : Nat} {el : TypeId} (hu : P.underlying t = some (.array len el)) {z : Value} {size bytes : Nat} (hI : (P.info? t).map (fun i => (i.zero, i.size, i.bytes)) = some (some z, size, bytes))
  {ez : Option Value} {es eb : Nat} (hE : (P.info? el).map (fun i => (i.zero, i.size, i.bytes)) = some (ez, es, eb)) {places : List (Nat × Nat)} (hp : arrOk es 0 places = true) {zs : List AV} (hz : (ofConst z).flat = some zs) {qs : List (Nat × List AV)} (hq : Parts n T parts.toList qs) {cs : List AV} (hf : fillA places zs qs = some cs)
  (k : AL P ops Q rest n (pu T d (.agg cs)) heap) : AL P ops Q (o :: rest) n T heap := by
 refine AL.val hw hd (fun en a w ρ Z Y hR => ?_) k
 obtain ⟨us, u1, u2, u3⟩ := (val_ofConst (Kn := Kn heap) (ρ := ρ) (w := w) (Z := Z) (Y := Y) z).flat hz
 obtain ⟨vs, q1, q2, q3⟩ := fillA_open hR hq hf u2 u3
 refine ⟨.agg vs.toArray, val_of (s := Instr.build t (parts.map (fun (i, x) => (i, a.eval x)))) (by unfold execOp; rw [ho]) ?_, .agg q2.len q3 q2.at_⟩
 obtain ⟨i, hi, hz', _, _⟩ := info_of hI
 have e2 : (zeroValue t).run P w = .ok z w := by simp [zeroValue, typeInfo, hi, hz']
 have e3 : (sizeOf el).run P w = .ok es w := run_size hE
 have e4 := fill_mono (f := fun i => some (i * es, es)) (fun i x hx => by
  have := arrOk_get hp (j := i) (x := x) (by simpa using hx)
  rw [this]; simp) _ _ _ (fill_of _ _ _ q1)
 have e5 : (parts.map (fun (i, x) => (i, a.eval x))).toList = parts.toList.map (fun x => (x.1, a.eval x.2)) := by simp
 simp only [Instr.build, Sem.run_bind, e2, Result.andThen_ok, run_underlying hu, e3, u1, e5, e4, Sem.run_pure]
theorem A_index (hw : wantedA n T ops o = true) (hd : o.dst = some d) {t : TypeId} {x ix : Operand} (ho : o.op = .index t x ix) {len : Nat} {el : TypeId} (hu : P.underlying t = some (.array len el)) {ds : TypeDesc} (hds : P.underlying el = some ds) (ha : (match ds with | .struct _ | .array _ _ => true | _ => false) = false) {ez : Option Value} {eb : Nat} (hE : (P.info? el).map (fun i => (i.zero, i.size, i.bytes)) = some (ez, 1, eb))
  {kd : IntKind} {I : Int} (hix : evA n T ix = .t (.v (.int kd I))) (h0I : 0 ≤ I) {J : Nat} (hJ : I.toNat = J) (hlt : J < len) {l : List AV} (hx : evA n T x = .agg l) {u : AV} (hc : l[J]? = some u) (k : AL P ops Q rest n (pu T d u) heap) : AL P ops Q (o :: rest) n T heap := by
 obtain rfl : I = (J : Int) := by omega
 refine AL.val hw hd (fun en a w ρ Z Y hR => ?_) k
 have hv := hR.eval x
 rw [hx] at hv
 generalize hax : a.eval x = vx at hv
 have hvi := hR.eval ix
 rw [hix] at hvi
 generalize hai : a.eval ix = vi at hvi
 cases hv with
 | @agg _ us h1 h2 h3 =>
 cases hvi with
 | t h => cases h with
  | v h =>
   have hJu : J < us.length := by have := (List.getElem?_eq_some_iff.1 hc).1; omega
   have hg : us[J]? = some us[J] := List.getElem?_eq_getElem hJu
   refine ⟨us[J], val_of (s := Instr.index t (a.eval x) (a.eval ix)) (by unfold execOp; rw [ho]) ?_, h3 J _ _ hc hg⟩
   have e3 : (sizeOf el).run P w = .ok 1 w := run_size hE
   rw [hax, hai]
   have hpart : (part el us.toArray J).run P w = .ok us[J] w := by
    have hag : (Go.isAgg el).run P w = .ok false w := by
     unfold Go.isAgg
     rw [Sem.run_bind, run_underlying hds]
     cases ds <;> simp_all [Result.andThen]
    simp [part, hag, Result.andThen, hg]
   simp only [Instr.index, asIntOf, Sem.run_bind, Sem.run_pure, Result.andThen_ok, run_underlying hu]
   rw [if_pos ⟨by omega, by omega⟩]
   simp only [Sem.run_bind, e3, Result.andThen_ok, Int.toNat_natCast, Nat.mul_one, hpart]
theorem R_buildA {F : List Dl → (Nat → AV) → List Ob → Prop} {acc : List Dl} (hw : wantedA n T ops o = true) (hd : o.dst = some d) {t : TypeId} {parts : Array (Nat × Operand)} (ho : o.op = .build t parts) {len : Nat} {el : TypeId} (hu : P.underlying t = some (.array len el)) {z : Value} {size bytes : Nat} (hI : (P.info? t).map (fun i => (i.zero, i.size, i.bytes)) = some (some z, size, bytes))
  {ez : Option Value} {es eb : Nat} (hE : (P.info? el).map (fun i => (i.zero, i.size, i.bytes)) = some (ez, es, eb)) {places : List (Nat × Nat)} (hp : arrOk es 0 places = true) {zs : List AV} (hz : (ofConst z).flat = some zs) {qs : List (Nat × List AV)} (hq : Parts n T parts.toList qs) {cs : List AV} (hf : fillA places zs qs = some cs)
  (k : RG P ops n F rest (acc ++ [⟨some d, .agg cs, [], []⟩]) (pu T d (.agg cs)) heap) : RG P ops n F (o :: rest) acc T heap :=
 RG.cons hd.symm (fun T' h' hT hH hlen_ => A_buildA (by rw [wanted_eqA hT]; exact hw) hd ho hu hI hE hp hz (Parts.agree hT (fun y hy => by rw [ho]; simpa [Op.operands] using hy) hq) hf (AL.nil ⟨rfl, rfl, rfl⟩)) rfl rfl k
theorem R_index {F : List Dl → (Nat → AV) → List Ob → Prop} {acc : List Dl} (hw : wantedA n T ops o = true) (hd : o.dst = some d) {t : TypeId} {x ix : Operand} (ho : o.op = .index t x ix) {len : Nat} {el : TypeId} (hu : P.underlying t = some (.array len el)) {ds : TypeDesc} (hds : P.underlying el = some ds) (ha : (match ds with | .struct _ | .array _ _ => true | _ => false) = false) {ez : Option Value} {eb : Nat} (hE : (P.info? el).map (fun i => (i.zero, i.size, i.bytes)) = some (ez, 1, eb))
  {kd : IntKind} {I : Int} (hix : evA n T ix = .t (.v (.int kd I))) (h0I : 0 ≤ I) {J : Nat} (hJ : I.toNat = J) (hlt : J < len) {l : List AV} (hx : evA n T x = .agg l) {u : AV} (hc : l[J]? = some u) (k : RG P ops n F rest (acc ++ [⟨some d, u, [], []⟩]) (pu T d u) heap) : RG P ops n F (o :: rest) acc T heap :=
 RG.cons hd.symm (fun T' h' hT hH hlen_ => A_index (by rw [wanted_eqA hT]; exact hw) hd ho hu hds ha hE (by rw [ev_eq hT (by simp [ho, Op.operands, Call.operands])]; exact hix) h0I hJ hlt (by rw [ev_eq hT (by simp [ho, Op.operands, Call.operands])]; exact hx) hc (AL.nil ⟨rfl, rfl, rfl⟩)) rfl rfl k
end
end
section
def lookE (es : List (Int × Int)) (k : Int) : Option Int := (es.find? fun p => decide (p.1 = k)).map (·.2)
theorem findNow_es (k : Int) : ∀ (l : List MapEntry) (es : List (Int × Int)) (i : Nat), l.map (fun e => (e.key, e.val)) = es.map (fun p => (Value.int .i64 p.1, Value.int .i64 p.2)) →
  ∃ r, Instr.findNow (.int .i64) (.int .i64 k) l i = some r ∧ r.map (·.2) = (lookE es k).map (Value.int .i64)
 | [], [], i, _ => ⟨none, rfl, rfl⟩
 | [], _ :: _, _, h => by simp at h
 | _ :: _, [], _, h => by simp at h
 | e :: l, p :: es, i, h => by
  simp only [List.map_cons, List.cons.injEq, Prod.mk.injEq] at h
  obtain ⟨⟨h1, h2⟩, h3⟩ := h
  unfold Instr.findNow
  rw [h1]
  by_cases g : p.1 = k
  ·have : Instr.sameNow (.int .i64) (.int .i64 k) (.int .i64 p.1) = some true := by simp [Instr.sameNow, g]
   rw [this]
   refine ⟨some (i, e.val), rfl, ?_⟩
   unfold lookE
   rw [List.find?_cons, decide_eq_true g, h2]; rfl
  ·have : Instr.sameNow (.int .i64) (.int .i64 k) (.int .i64 p.1) = some false := by simp [Instr.sameNow]; omega
   rw [this]
   obtain ⟨r, q1, q2⟩ := findNow_es k l es (i + 1) h3
   refine ⟨r, q1, ?_⟩
   unfold lookE at q2 ⊢
   rw [List.find?_cons, decide_eq_false g, q2]
section
variable {P : Program} {w : World}
theorem run_checkKey_int {kt : TypeId} (hk : P.underlying kt = some (.int .i64)) (b : Bool) (d : Nat) (k : Int) : (Instr.checkKey b (d + 1) kt (.int .i64 k)).run P w = .ok () w := by
 simp [Instr.checkKey, run_underlying hk, Result.andThen]
theorem run_findKey_int {kt : TypeId} (hk : P.underlying kt = some (.int .i64)) (k : Int) {l : List MapEntry} {es : List (Int × Int)} (h : l.map (fun e => (e.key, e.val)) = es.map (fun p => (Value.int .i64 p.1, Value.int .i64 p.2))) :
  ∃ r : Option (Nat × Value), (Instr.findKey kt (.int .i64 k) l).run P w = .ok r w ∧ r.map (·.2) = (lookE es k).map (Value.int .i64) := by
 obtain ⟨r, h1, h2⟩ := findNow_es k l es 0 h
 refine ⟨r, ?_, h2⟩
 simp [Instr.findKey, run_underlying hk, Result.andThen, h1]
end
section
variable {P : Program} {ops : Array Oper} {Q : QS} {rest : List Oper} {o : Oper} {n : Fr} {T : Nat → AV} {heap : List Ob} {d : Nat}
theorem A_mkmap (hw : wantedA n T ops o = true) (hd : o.dst = some d) {t : TypeId} (ho : o.op = .makeMap t none) {heap' : List Ob} {N : Nat} (hat : AtL heap N [.mp []] heap') (k : AL P ops Q rest n (pu T d (.mv N)) heap') : AL P ops Q (o :: rest) n T heap := by
 refine AL.act hw hd (fun e a w ρ Z Y hR => ?_) k
 obtain ⟨ρ', k1, k2, k3, k4⟩ := hR.ok.push1 (o := .mp []) hat (w' := w.alloc (.map #[] 0)) (pl := ⟨some ⟨w.heap.size, 0, none⟩, 0, 0⟩) ⟨rfl, rfl, rfl⟩ (by simp) (fun b hb => heap_alloc_old w _ hb) (fun ρ' hN hρ => ⟨w.heap.size, #[], 0, by rw [hN], heap_alloc_new w _, rfl⟩) (fun b hb _ => by simp at hb; subst hb; simp)
 refine ⟨.map (some w.heap.size), _, ρ', Z, Y, ?_, k1, k2, .mv ⟨_, hat.one, Nat.le_refl _⟩ (by rw [k3])⟩
 refine val_of (s := Instr.makeMap t none) (by unfold execOp; rw [ho]; rfl) ?_
 simp [Instr.makeMap, Result.andThen]
theorem HRep.mp {w : World} {ρ : Rho} {Z Y : Nat → Prop} (h : HRep heap w ρ Z Y) {i : Nat} {es : List (Int × Int)} (hi : heap[i]? = some (.mp es)) {v : Value} (hv : Val (Kn heap) ρ w Z Y (.mv i) v) :
  ∃ b arr clock, v = .map (some b) ∧ (ρ i 0).a = some ⟨b, 0, none⟩ ∧ w.heap[b]? = some (.map arr clock) ∧ arr.toList.map (fun e => (e.key, e.val)) = es.map (fun p => (Value.int .i64 p.1, Value.int .i64 p.2)) := by
 obtain ⟨b, arr, c, h1, h2, h3⟩ := h.obs i _ hi
 cases hv with
 | mv hk ha => rw [h1] at ha; cases ha; exact ⟨_, arr, c, rfl, h1, h2, h3⟩
theorem A_lookup (hw : wantedA n T ops o = true) (hd : o.dst = some d) {t : TypeId} {m ix : Operand} (ho : o.op = .lookup t m ix true) {kt et : TypeId} (ht : P.underlying t = some (.map kt et)) (hkt : P.underlying kt = some (.int .i64)) {size bytes : Nat} (hE : (P.info? et).map (fun i => (i.zero, i.size, i.bytes)) = some (some (.int .i64 0), size, bytes))
  {i : Nat} (hm : evA n T m = .mv i) {es : List (Int × Int)} (hi : heap[i]? = some (.mp es)) {k : Int} (hix : evA n T ix = .t (.v (.int .i64 k))) {r : Option Int} (hr : lookE es k = r) {v : Int} {b : Bool} (hv : r.getD 0 = v) (hb : r.isSome = b)
  (k' : AL P ops Q rest n (pu T d (.tup [.t (.v (.int .i64 v)), .t (.v (.bool b))])) heap) : AL P ops Q (o :: rest) n T heap := by
 subst hr hv hb
 refine AL.val hw hd (fun en a w ρ Z Y hR => ?_) k'
 have h1 := hR.eval m
 rw [hm] at h1
 obtain ⟨b, arr, c, e1, e2, e3, e4⟩ := hR.ok.rep.mp hi h1
 have h2 := hR.eval ix
 rw [hix] at h2
 generalize hai : a.eval ix = vi at h2
 cases h2 with
 | t h => cases h with
  | v h =>
   obtain ⟨q, f1, f2⟩ := run_findKey_int (P := P) (w := w) hkt k e4
   obtain ⟨inf, hin, hz, _, _⟩ := info_of hE
   have hzero : (zeroValue et).run P w = .ok (.int .i64 0) w := by simp [zeroValue, typeInfo, hin, hz]
   have hget : (getObj b).run P w = .ok (.map arr c) w := by simp [getObj, Sem.run, e3]
   have hck := run_checkKey_int (P := P) (w := w) hkt arr.isEmpty 9999 k
   refine ⟨.tuple #[.int .i64 ((lookE es k).getD 0), .bool (lookE es k).isSome], val_of (s := Instr.lookup t (a.eval m) (a.eval ix) true) (by unfold execOp; rw [ho]) ?_, .tup (us := [.int .i64 ((lookE es k).getD 0), .bool (lookE es k).isSome]) rfl (fun j x u hj hu => ?_)⟩
   ·rw [e1, hai]
    cases q with
    | none =>
     have hl : lookE es k = none := by cases hl : lookE es k <;> rw [hl] at f2 <;> simp at f2 <;> rfl
     simp [Instr.lookup, run_underlying ht, hget, hck, f1, hzero, Result.andThen, hl]
    | some p =>
     obtain ⟨x, hl⟩ : ∃ x, lookE es k = some x := by cases hl : lookE es k <;> rw [hl] at f2 <;> simp at f2; exact ⟨_, rfl⟩
     rw [hl] at f2
     simp at f2
     simp [Instr.lookup, run_underlying ht, hget, hck, f1, Result.andThen, hl, f2]
   ·match j with
    | 0 => cases hj; cases hu; exact .t (.v rfl)
    | 1 => cases hj; cases hu; exact .t (.v rfl)
    | j + 2 => simp at hj
theorem A_mapnew (hw : wantedA n T ops o = true) (hd : o.dst = none) {t : TypeId} {m ix x : Operand} (ho : o.op = .mapUpdate t m ix x) {kt et : TypeId} (ht : P.underlying t = some (.map kt et)) (hkt : P.underlying kt = some (.int .i64))
  {i : Nat} (hm : evA n T m = .mv i) {es : List (Int × Int)} (hi : heap[i]? = some (.mp es)) {k v : Int} (hix : evA n T ix = .t (.v (.int .i64 k))) (hx : evA n T x = .t (.v (.int .i64 v))) (hr : lookE es k = none) {heap' : List Ob} (hh : heap.set i (.mp (es ++ [(k, v)])) = heap')
  (k' : AL P ops Q rest n T heap') : AL P ops Q (o :: rest) n T heap := by
 subst hh
 refine AL.unit hw hd (fun en a w ρ Z Y hR => ?_) k'
 have h1 := hR.eval m
 rw [hm] at h1
 obtain ⟨b, arr, c, e1, e2, e3, e4⟩ := hR.ok.rep.mp hi h1
 have h2 := hR.eval ix
 rw [hix] at h2
 have h3 := hR.eval x
 rw [hx] at h3
 generalize hai : a.eval ix = vi at h2
 generalize hax : a.eval x = vx at h3
 have hvi : vi = .int .i64 k := by cases h2 with | t h => cases h with | v h => rfl
 have hvx : vx = .int .i64 v := by cases h3 with | t h => cases h with | v h => rfl
 subst hvi hvx
 obtain ⟨q, f1, f2⟩ := run_findKey_int (P := P) (w := w) hkt k e4
 rw [hr] at f2
 have hq : q = none := by cases q <;> simp at f2; rfl
 subst hq
 have hget : (getObj b).run P w = .ok (.map arr c) w := by simp [getObj, Sem.run, e3]
 have hck := run_checkKey_int (P := P) (w := w) hkt false 9999 k
 have hlt : b < w.heap.size := by
  rcases Nat.lt_or_ge b w.heap.size with h | h
  ·exact h
  ·rw [Array.getElem?_eq_none h] at e3; cases e3
 have hblk : (Ob.mp es).blk ρ i = some b := by simp [Ob.blk, e2]
 have hset : (setObj b (.map (arr.push ⟨.int .i64 k, .int .i64 v, c⟩) (c + 1))).run P w = .ok () { w with heap := w.heap.setIfInBounds b (.map (arr.push ⟨.int .i64 k, .int .i64 v, c⟩) (c + 1)) } := by simp [setObj, Sem.run, e3]
 have hsame : ∀ b', b' < w.heap.size → (Ob.mp es).blk ρ i ≠ some b' → (w.heap.setIfInBounds b (.map (arr.push ⟨.int .i64 k, .int .i64 v, c⟩) (c + 1)))[b']? = w.heap[b']? := fun b' _ hne => by
  rw [Array.getElem?_setIfInBounds, if_neg (fun e => hne (by rw [hblk, e]))]
 have hval : ∀ x u, Val (Kn heap) ρ w Z Y x u → Val (Kn (heap.set i (.mp (es ++ [(k, v)])))) ρ { w with heap := w.heap.setIfInBounds b (.map (arr.push ⟨.int .i64 k, .int .i64 v, c⟩) (c + 1)) } Z Y x u := fun x u hu =>
  hR.ok.rep.val (fun j q hj => ⟨hj.set hi (by exact Nat.le_refl _), rfl⟩) (fun _ h => h) (fun b' hb' => ⟨hb', hsame b' (hR.ok.rep.ylt b' hb') (hR.ok.rep.notin hi hb')⟩) hu
 refine ⟨{ w with heap := w.heap.setIfInBounds b (.map (arr.push ⟨.int .i64 k, .int .i64 v, c⟩) (c + 1)) }, ρ, Z, Y, ?_, hR.ok.turn hi (Nat.le_refl _) (fun _ _ _ => rfl) ⟨rfl, rfl, rfl⟩ (by simp) hsame ⟨b, arr.push ⟨.int .i64 k, .int .i64 v, c⟩, c + 1, e2, ?_, ?_⟩ (fun b' hb' => .inl hb'), hval⟩
 ·unfold execOp
  simp [ho, e1, hai, hax, Instr.mapUpdate, run_underlying ht, hget, hck, f1, hset, Result.andThen]
 ·show (w.heap.setIfInBounds b _)[b]? = _
  rw [Array.getElem?_setIfInBounds, if_pos rfl, if_pos hlt]
 ·rw [Array.toList_push, List.map_append, e4, List.map_append]; rfl
end
end
end Go.Proofs.Ytnibnbcmnaflmaa
