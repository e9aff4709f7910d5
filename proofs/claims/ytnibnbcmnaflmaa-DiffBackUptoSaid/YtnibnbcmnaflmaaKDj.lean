/- Joined: XTGrow, XTClear, XTWaitP, XTIdxF, XTDiffD. -/
import Derived.Test.YtnibnbcmnaflmaaKDc
import Derived.Test.YtnibnbcmnaflmaaKDd
import Derived.Lib.AppendZerosOnto
import Derived.Laws.CopyRow
import Derived.Test.YtnibnbcmnaflmaaKDe
import Derived.Test.YtnibnbcmnaflmaaKDh
namespace Go.Proofs.Ytnibnbcmnaflmaa
open Go.RowKit
set_option linter.unusedVariables false
set_option linter.unusedSimpArgs false
set_option linter.unnecessarySimpa false
set_option maxRecDepth 100000
set_option maxHeartbeats 64000000
section
section
variable {P : Program} {ops : Array Oper} {Q : QS} {rest : List Oper} {o : Oper} {n : Fr} {T : Nat → AV} {heap : List Ob} {d : Nat}
theorem A_cap_nl (hw : wantedA n T ops o = true) (hd : o.dst = some d) {t : TypeId} {x : Operand} (ho : o.op = .call { callee := .builtin .cap, args := #[x], argTypes := #[t] }) {e : TypeId} (ht : P.underlying t = some (.slice e)) (hx : evA n T x = .nl)
  (k : AL P ops Q rest n (pu T d (.t (.v (.int .i64 0)))) heap) : AL P ops Q (o :: rest) n T heap := by
 refine AL.val hw hd (fun en a w ρ Z Y hR => ?_) k
 have hv := hR.eval x
 rw [hx] at hv
 generalize hax : a.eval x = vx at hv
 cases hv with
 | nl sa =>
 refine ⟨.int .i64 0, ?_, .t (.v rfl)⟩
 unfold execOp
 simp only [ho, resolve, invoke, builtin, Sem.run_bind, Sem.run_pure, Result.andThen_ok, List.map_toArray, List.map_cons, List.map_nil, hax]
 simp [Builtin.cap_, Result.andThen, run_underlying ht, goInt]
theorem A_cut_nl (hw : wantedA n T ops o = true) (hd : o.dst = some d) {t : TypeId} {x : Operand} {lo hi : Option Operand} (ho : o.op = .slice t x lo hi none) {e : TypeId} (ht : P.underlying t = some (.slice e)) {z : Option Value} {size bytes : Nat} (hI : (P.info? e).map (fun i => (i.zero, i.size, i.bytes)) = some (z, size, bytes))
  (hx : evA n T x = .nl) (hl : Bd n T lo 0 0) (hh : Bd n T hi 0 0) (k : AL P ops Q rest n (pu T d .nl) heap) : AL P ops Q (o :: rest) n T heap := by
 refine AL.val hw hd (fun en a w ρ Z Y hR => ?_) k
 have hv := hR.eval x
 rw [hx] at hv
 generalize hax : a.eval x = vx at hv
 cases hv with
 | nl sa =>
 exact ⟨_, val_of (s := Instr.sliceAt t (a.eval x) (lo.map a.eval) (hi.map a.eval) none) (by unfold execOp; rw [ho]; rfl) (cut_run (l := 0) (h := 0) hR ht hI hax (Nat.le_refl _) hl hh (Nat.le_refl _) (Nat.le_refl _)), .nl _⟩
theorem A_append_z (hw : wantedA n T ops o = true) (hd : o.dst = some d) {s x : Operand} {t t2 : TypeId} (ho : o.op = .call { callee := .builtin .append, args := #[s, x], argTypes := #[t, t2] }) {e : TypeId} (ht : P.underlying t = some (.slice e)) {kn : IntKind} (ht2 : P.underlying t2 = some (.int kn))
  {az : List AV} {size bytes : Nat} (hz : ∃ z b, (P.info? e).map (fun i => (i.zero, i.size, i.bytes)) = some (some z, size, b) ∧ (ofConst z).flat = some az ∧ z.cells.size = size ∧ b = bytes) {zs : List Tr} (hzs : trsA az = some zs) (h0 : 0 < size)
  (hs : evA n T s = .nl) {C : Int} (hx : evA n T x = .t (.v (.int .i64 C))) (m : Nat) (hC : C = (m : Int)) (hm0 : 0 < m) (b1 : m ≤ maxLen) (b2 : m * bytes ≤ 140737488355328) {els' : List (List Tr)} (he : List.replicate m zs = els')
  {heap' : List Ob} {N : Nat} (hat : AtL heap N [.row 0 e size els'] heap') (k : AL P ops Q rest n (pu T d (.sl N 0 m)) heap') : AL P ops Q (o :: rest) n T heap := by
 subst hC he
 obtain ⟨z, b, hI, hfl, hcs, rfl⟩ := hz
 refine AL.act hw hd (fun en a w ρ Z Y hR => ?_) k
 obtain ⟨inf, hin, hz', hsz, hby⟩ := info_of hI
 subst hsz hby
 have hrep := hR.ok.rep
 have hv := hR.eval s
 rw [hs] at hv
 have hvx := hR.eval x
 rw [hx] at hvx
 generalize hax : a.eval s = vx at hv
 generalize hal : a.eval x = vl at hvx
 cases hv with
 | nl sa =>
 cases hvx with
 | t h => cases h with
  | v h =>
  have hb1 : m ≤ 9223372036854775807 := by simp only [maxLen] at b1; omega
  have hr := Go.Lib.run_append_grow_zeros (P := P) w t t2 o.type e inf z .i64 kn ht ht2 hin hz' sa 0 0 [] (by cases sa <;> simp [Builtin.firstCells, loadCells, loadCellsFrom, run_firstCells_none]) m hm0 h0 (by omega) (by omega) (by omega) (growslice_fits (by omega) (by rw [Nat.zero_add]; exact b2))
  have e0 : ([] : List Value).toArray = #[] := rfl
  simp only [Nat.zero_add, e0, Array.empty_append] at hr
  generalize hG : grownCap w m 0 e = G at hr
  have hge : m ≤ G := by have := grownCap_ge w m 0 e; omega
  have hcm : G ≤ maxLen := by have := grownCap_le_maxLen w m 0 e b1; omega
  generalize hW : w.drew.alloc (.cells (Builtin.zeroCells z.cells m ++ Builtin.zeroCells z.cells (G - m)) e) = w' at hr
  obtain ⟨us, u1, u2, u3⟩ := (val_ofConst (Kn := Kn heap) (ρ := ρ) (w := w') (Z := Z) (Y := Y) z).flat hfl
  obtain ⟨q1, q2⟩ := trsA_open hzs u2
  have hus : us.length = inf.size := by rw [← hcs, u1]; simp
  have hflat : (Builtin.zeroCells z.cells m).toList = (List.replicate m us).flatten := by
   have e1 : Builtin.zeroCells z.cells m = madeCells z.cells (m * inf.size) := by
    unfold Builtin.zeroCells madeCells; rw [hcs]
   rw [e1]
   have := made_flat (α := Unit) (enc := fun _ => us) (size := inf.size) (z := z.cells) (x := ()) (by rw [u1]) hus m
   rw [this, List.flatMap_def, List.map_replicate]
  have hsize : w.heap.size ≤ w'.heap.size := by subst hW; simp
  have h3 : Same3 w w' := by subst hW; exact ⟨rfl, rfl, rfl⟩
  have hsame : ∀ b, b < w.heap.size → w'.heap[b]? = w.heap[b]? := fun b hb => by subst hW; exact heap_alloc_old w.drew _ hb
  have hnew : w'.heap[w.heap.size]? = some (.cells (Builtin.zeroCells z.cells m ++ Builtin.zeroCells z.cells (G - m)) e (0, 0)) := by subst hW; exact heap_alloc_new w.drew _
  have hlen : ((List.replicate m us).flatten).length = m * inf.size := by rw [← hflat, Array.length_toList, size_zeroCells, hcs]
  have hres : (Res.row (some ⟨w.heap.size, 0, none⟩) m G e inf.size ((List.replicate m us).flatten)).holds 0 w' := by
   refine .inr ⟨by omega, hlen, .inr ⟨w.heap.size, G, _, rfl, Nat.zero_le _, hnew, hge, hcm, ?_, ?_⟩⟩
   ·simp only [Array.size_append, size_zeroCells, hcs, ← Nat.add_mul]
    congr 1; omega
   ·rw [Array.toList_append, hflat, ← hlen]
    exact List.take_left
  obtain ⟨ρ', k1, k2, k3, k4⟩ := hR.ok.push1 (o := .row 0 e inf.size (List.replicate m zs)) hat (w' := w') (pl := ⟨some ⟨w.heap.size, 0, none⟩, G, inf.size⟩) h3 hsize hsame
   (fun ρ' hN hρ => ⟨by rw [hN], _, Elems.replicate (by rw [q1, hus]) hus q2 m, by rw [hN, List.length_replicate]; exact hres⟩)
   (fun b hb hb' => by
    simp at hb; subst hb
    exact ⟨Nat.le_refl _, by subst hW; simp⟩)
  refine ⟨.slice (some ⟨w.heap.size, 0, none⟩) m G, w', ρ', Z, Y, ?_, k1, k2, ?_⟩
  ·unfold execOp
   simp only [ho, resolve, invoke, builtin, Sem.run_bind, Sem.run_pure, Result.andThen_ok, List.map_toArray, List.map_cons, List.map_nil, hax, hal, hr]
  ·have := Val.sl (Kn := Kn heap') (ρ := ρ') (w := w') (Z := Z) (Y := Y) (i := N) (k := 0) (n := m) ⟨_, hat.one, Nat.le_refl _⟩ (by rw [k3]; exact hge) (by rw [k3]; intro e; cases e)
   rw [k3] at this
   exact this
end
end
section
theorem row_take {w : World} {a : Option Addr} {n c : Nat} {E : TypeId} {s : Nat} {xs : List Value} (h : (Res.row a n c E s xs).holds 0 w) (m : Nat) (hm : m ≤ n) : (Res.row a m c E s (xs.take (m * s))).holds 0 w := by
 rcases h with ⟨h1, h2, h3⟩ | ⟨h1, h2⟩
 ·subst h2 h3
  obtain rfl : m = 0 := by omega
  exact .inl ⟨h1, rfl, by simp⟩
 ·refine .inr ⟨h1, ?_⟩
  obtain ⟨g1, g2⟩ := h2
  have hms : m * s ≤ n * s := Nat.mul_le_mul_right _ hm
  refine ⟨by rw [List.length_take]; omega, ?_⟩
  rcases g2 with ⟨e1, e2⟩ | ⟨g, cap, cur, e1, e2, e3, e4, e5, e6, e7⟩
  ·simp only [Value.slice.injEq] at e1
   omega
  ·simp only [Value.slice.injEq] at e1
   obtain ⟨rfl, _, rfl⟩ := e1
   exact .inr ⟨g, c, cur, rfl, e2, e3, by omega, e5, e6, by rw [← e7, List.take_take, Nat.min_eq_left hms]⟩
theorem Wk.shrink {n : Fr} {T : Nat → AV} {heap : List Ob} (i m : Nat) {k : Nat} {E : TypeId} {s : Nat} {els : List (List Tr)} (hi : heap[i]? = some (.row k E s els)) (hm : m ≤ els.length) {heap' : List Ob} (hh : heap.set i (.row k E s (els.take m)) = heap') : Wk n T heap T heap' := by
 subst hh
 rintro e a w ⟨ρ, Z, Y, hR⟩
 obtain ⟨h1, xs, h2, h3⟩ := hR.ok.rep.obs i _ hi
 have hl : (els.take m).length = m := by rw [List.length_take]; omega
 have hok : Ok e (heap.set i (.row k E s (els.take m))) w ρ Z Y := hR.ok.turn hi (Nat.le_refl _) (fun _ _ _ => rfl) ⟨rfl, rfl, rfl⟩ (Nat.le_refl _) (fun _ _ _ => rfl) ⟨h1, _, h2.take m, by rw [hl]; exact row_take h3 m hm⟩ (fun b hb => .inl hb)
 exact ⟨ρ, Z, Y, hR.move hok fun x v hv => hR.ok.rep.val (fun j q hj => ⟨hj.set hi (by exact Nat.le_refl _), rfl⟩) (fun _ h => h) (fun b hb => ⟨hb, rfl⟩) hv⟩
section
variable {P : Program} {ops : Array Oper} {Q : QS} {rest : List Oper} {o : Oper} {n : Fr} {T : Nat → AV} {heap : List Ob} {d : Nat}
theorem AL.eff {heap' : List Ob} (hw : wantedA n T ops o = true) (hd : o.dst = none)
  (h : ∀ e a w ρ Z Y, Rp e ⟨n, T, heap⟩ a w ρ Z Y → ∃ v w' ρ' Z' Y', (execOp a.eval o).run P w = .ok (.value v) w' ∧ Ok e heap' w' ρ' Z' Y' ∧ (∀ x v, Val (Kn heap) ρ w Z Y x v → Val (Kn heap') ρ' w' Z' Y' x v))
  (k : AL P ops Q rest n T heap') : AL P ops Q (o :: rest) n T heap := by
 rintro e a w ⟨ρ, Z, Y, hR⟩
 obtain ⟨v, w', ρ', Z', Y', h1, h2, h3⟩ := h e a w ρ Z Y hR
 refine wpList_val (hR.wanted hw) h1 (k e _ _ ⟨ρ', Z', Y', ?_⟩)
 rw [hd]
 exact hR.move h2 h3
theorem A_clear (hw : wantedA n T ops o = true) (hd : o.dst = none) {s : Operand} {t : TypeId} (ho : o.op = .call { callee := .builtin .clear, args := #[s], argTypes := #[t] }) {e : TypeId} (ht : P.underlying t = some (.slice e)) {z : Value} {size bytes : Nat} (hI : (P.info? e).map (fun i => (i.zero, i.size, i.bytes)) = some (some z, size, bytes)) (hz : z.cells.size = size) (h1 : z.cells.toList.all (·.oneCell') = true)
  {i k' off m : Nat} (hs : evA n T s = .sub i k' off m) {E : TypeId} {els : List (List Tr)} (hi : heap[i]? = some (.row k' E size els)) (hm : off + m = els.length) {heap' : List Ob} (hh : heap.set i (.row k' E size (els.take off)) = heap') (k : AL P ops Q rest n T heap') : AL P ops Q (o :: rest) n T heap := by
 subst hh
 refine AL.eff hw hd (fun en a w ρ Z Y hR => ?_) k
 obtain ⟨g1, xs, g2, g3⟩ := hR.ok.rep.obs i _ hi
 have hv := hR.eval s
 rw [hs] at hv
 generalize hax : a.eval s = vx at hv
 obtain ⟨inf, hin, hzz, _, _⟩ := info_of hI
 have hzero : (zeroValue e).run P w = .ok z w := by simp [zeroValue, typeInfo, hin, hzz]
 have hl : (els.take off).length = off := by rw [List.length_take]; omega
 cases hv with
 | sub hk hn hmx h0 ha =>
 rename_i da cq
 by_cases hm0 : m = 0
 ·subst hm0
  have hok : Ok en (heap.set i (.row k' E size (els.take off))) w ρ Z Y := hR.ok.turn hi (Nat.le_refl _) (fun _ _ _ => rfl) ⟨rfl, rfl, rfl⟩ (Nat.le_refl _) (fun _ _ _ => rfl) ⟨g1, _, g2.take off, by rw [hl]; exact row_take g3 off (by omega)⟩ (fun b hb => .inl hb)
  refine ⟨.tuple #[], w, ρ, Z, Y, ?_, hok, fun x v hv => hR.ok.rep.val (fun j q hj => ⟨hj.set hi (by exact Nat.le_refl _), rfl⟩) (fun _ h => h) (fun b hb => ⟨hb, rfl⟩) hv⟩
  unfold execOp
  cases da <;> simp [ho, hax, resolve, invoke, builtin, Builtin.clear_, run_underlying ht, Result.andThen]
 ·obtain rfl := ha hm0
  rcases g3 with ⟨_, hn0, _⟩ | ⟨hcp, hown⟩
  ·omega
  rcases hown.2 with ⟨he, hn0⟩ | ⟨g, cap, cur, he, hbg, hg, hnc, hcm, hcs, htake⟩
  ·omega
  simp only [Value.slice.injEq] at he
  obtain ⟨hra, _, hrc⟩ := he
  have hadd : (adr (ρ i k').a).add (off * (ρ i k').s) = ⟨g, off * size, none⟩ := by
   rw [hra, g1]
   show (⟨g, 0, none⟩ : Addr).add (off * size) = _
   rw [add_at]; simp
  obtain ⟨ys, hys⟩ : ∃ ys, (Builtin.zeroCells z.cells m).toList = ys := ⟨_, rfl⟩
  have hyl : ys.length = m * size := by rw [← hys]; simp [Builtin.zeroCells, hz]
  have hy1 : ∀ v ∈ ys, v.oneCell' = true := by
   intro v hv
   rw [← hys] at hv
   simp only [Builtin.zeroCells, Array.toList_map, Array.toList_range, List.mem_map, List.mem_range] at hv
   obtain ⟨q, hq, rfl⟩ := hv
   have hpos : 0 < z.cells.size := by
    rcases Nat.eq_zero_or_pos z.cells.size with h | h
    ·rw [h] at hq; omega
    ·exact h
   have hlt : q % z.cells.size < z.cells.size := Nat.mod_lt _ hpos
   rw [getElem!_pos z.cells _ hlt]
   exact List.all_eq_true.1 h1 _ (by rw [← Array.getElem_toList]; exact List.getElem_mem (by simpa using hlt))
  have hle : (off + m) * size ≤ cur.size := by rw [hcs]; exact Nat.mul_le_mul_right _ (by omega)
  rw [Nat.add_mul] at hle
  have hst := run_storeCells_at P g (off * size) E ys 0 cur w hg (by omega) hy1
  simp only [Nat.add_zero] at hst
  have hblk : (Ob.row k' E size els).blk ρ i = some g := by
   show (if (ρ i k').c = 0 then none else (ρ i k').a.map (·.block)) = some g
   rw [if_neg (by omega), hra]; rfl
  generalize hcur : (cur.toList.take (off * size) ++ ys ++ cur.toList.drop (off * size + ys.length)).toArray = cur' at hst
  have hsame : ∀ b', b' < w.heap.size → (Ob.row k' E size els).blk ρ i ≠ some b' → (w.setRow g cur').heap[b']? = w.heap[b']? := fun b' _ hne => setRow_other w g b' _ (fun e => hne (by rw [hblk, e]))
  have hzk : ∀ b, Z b → Z b ∧ (w.setRow g cur').heap[b]? = w.heap[b]? := fun b hb => ⟨hb, hsame b (hR.ok.rep.ylt b (hR.ok.rep.zy b hb)) (hR.ok.rep.notin hi (hR.ok.rep.zy b hb))⟩
  have hcs' : cur'.size = cur.size := by rw [← hcur]; simp only [List.size_toArray, List.length_append, List.length_take, List.length_drop, Array.length_toList]; omega
  have htk : cur'.toList.take (off * size) = xs.take (off * size) := by
   rw [← hcur, ← htake]
   have e1 : (cur.toList.take (off * size)).length = off * size := by rw [List.length_take, Array.length_toList]; omega
   have e2 : off * size ≤ els.length * size := Nat.mul_le_mul_right _ (by omega)
   rw [List.append_assoc, List.take_take, Nat.min_eq_left e2]
   conv => lhs; rw [List.take_append_of_le_length (by omega), List.take_of_length_le (by omega)]
  have hos : off * size ≤ els.length * size := Nat.mul_le_mul_right _ (by omega)
  have hrow : (Res.row (ρ i k').a (els.take off).length (ρ i k').c E size (xs.take (off * size))).holds 0 (w.setRow g cur') := by
   rw [hl]
   exact .inr ⟨hcp, ⟨by rw [List.length_take, hown.1]; omega, .inr ⟨g, cap, cur', by rw [hra, hrc], hbg, setRow_heap w g cur _ E _ hg, by omega, hcm, by rw [hcs', hcs], htk⟩⟩⟩
  have hok : Ok en (heap.set i (.row k' E size (els.take off))) (w.setRow g cur') ρ Z Y :=
   hR.ok.turn (w' := w.setRow g cur') (o' := .row k' E size (els.take off)) hi (Nat.le_refl _) (fun _ _ _ => rfl) ⟨rfl, rfl, rfl⟩ (by simp) hsame ⟨g1, xs.take (off * size), (g2.take off).mono (fun _ _ h => h.mono hzk), hrow⟩ (fun b hb => .inl hb)
  refine ⟨.tuple #[], w.setRow g cur', ρ, Z, Y, ?_, hok, fun x v hv => hR.ok.rep.val (fun j q hj => ⟨hj.set hi (by exact Nat.le_refl _), rfl⟩) (fun _ h => h) (fun b hb => ⟨hb, hsame b (hR.ok.rep.ylt b hb) (hR.ok.rep.notin hi hb)⟩) hv⟩
  unfold execOp
  obtain ⟨m', rfl⟩ : ∃ m', m = m' + 1 := ⟨m - 1, by omega⟩
  simp [ho, hax, resolve, invoke, builtin, Builtin.clear_, run_underlying ht, hzero, hys, hst, Result.andThen, hadd]
end
end
section
def ixF {α : Type} (p : α → Bool) : List α → Int
 | [] => -1
 | a :: l => if p a then 0 else if ixF p l < 0 then -1 else ixF p l + 1
theorem ixF_b {α : Type} (p : α → Bool) : ∀ l : List α, -1 ≤ ixF p l ∧ ixF p l < l.length
  | [] => by simp [ixF]
  | a :: l => by have := ixF_b p l; unfold ixF; simp only [List.length_cons]; repeat' split
                 all_goals omega
theorem ixF_at {α : Type} (p : α → Bool) : ∀ (l : List α) (j : Nat) (a : α), (∀ q, q < j → ∀ b, l[q]? = some b → p b = false) → l[j]? = some a → p a = true → ixF p l = j
 | [], j, a, _, h, _ => by simp at h
 | b :: l, 0, a, _, h, hp => by simp at h; subst h; simp [ixF, hp]
 | b :: l, j + 1, a, h0, h, hp => by
  have h1 := ixF_at p l j a (fun q hq c hc => h0 (q + 1) (by omega) c (by simpa using hc)) (by simpa using h) hp
  have h2 := h0 0 (by omega) b rfl
  unfold ixF
  rw [h2, h1]; simp; omega
theorem ixF_none {α : Type} (p : α → Bool) : ∀ l : List α, (∀ q : Nat, ∀ b, l[q]? = some b → p b = false) → ixF p l = -1
 | [], _ => rfl
 | b :: l, h0 => by
  have h1 := ixF_none p l (fun q c hc => h0 (q + 1) c (by simpa using hc))
  have h2 := h0 0 b rfl
  unfold ixF
  rw [h2, h1]; simp
theorem ixF_get {α : Type} (p : α → Bool) : ∀ l : List α, 0 ≤ ixF p l → ∃ a, l[(ixF p l).toNat]? = some a ∧ p a = true
 | [], h => by simp [ixF] at h
 | b :: l, h => by
  unfold ixF at h ⊢
  cases hp : p b
  ·simp only [hp, Bool.false_eq_true, if_false] at h ⊢
   by_cases h2 : ixF p l < 0
   ·rw [if_pos h2] at h; omega
   ·rw [if_neg h2] at h ⊢
    obtain ⟨a, ha, hq⟩ := ixF_get p l (by omega)
    refine ⟨a, ?_, hq⟩
    rw [show (ixF p l + 1).toNat = (ixF p l).toNat + 1 by omega]; simpa using ha
  ·exact ⟨b, by simp, hp⟩
theorem ixF_yes {α : Type} (p : α → Bool) {l : List α} {q : Nat} {a : α} (h : l[q]? = some a) (hp : p a = true) : 0 ≤ ixF p l := by
 by_cases h0 : 0 ≤ ixF p l
 ·exact h0
 ·exfalso
  have hb := (ixF_b p l).1
  suffices h : ∀ (l : List α) (q : Nat), l[q]? = some a → ixF p l ≠ -1 by exact h l q ‹_› (by omega)
  intro l
  induction l with
  | nil => intro q h; simp at h
  | cons b l ih =>
   intro q h
   unfold ixF
   cases q with
   | zero => simp at h; subst h; simp [hp]
   | succ q =>
    have h1 := ih q (by simpa using h)
    have h2 := (ixF_b p l).1
    repeat' split
    all_goals omega
def w0 : DWait := ⟨false, 0, 0, []⟩
structure FS where
 th : Int
 wh : Int
 ok : Bool
end
section
attribute [local irreducible] AL AW RG Fin C Cd Cio thenQ blockQ retQ
set_option maxRecDepth 100000
end
section
attribute [local irreducible] AL AW RG Fin C Cd Cio thenQ blockQ retQ
set_option maxRecDepth 100000
theorem growX_c (n : Nat) (hn : n ≤ 4194304) : Cd Try.prog 74 [.nl, i64 n] (.sl 0 0 0) [.row 0 82 3 []] := by
 refine Cd.enter' Try.func74 rfl Try.ntmps74 rfl ?_
 by_cases h0 : 0 < n
 ·repeat' (first | ((with_reducible refine kAL ?_); (first | refine A_cap_nl rfl rfl rfl Ud.h rfl ?_ | refine A_cut_nl rfl rfl rfl Ud.h In.h rfl (.no 0) (.yes rfl (Int.le_refl 0) rfl) ?_ | refine A_append_z rfl rfl rfl Ud.h Ud.h ⟨_, _, In.h, rfl, rfl, rfl⟩ rfl (by decide) rfl rfl n (by omega) (by omega) (by simp only [maxLen]; omega) (by omega) rfl (.push rfl rfl) ?_ | refine uA ?_)) | refine uC ?_ | refine uA ?_ | refine uC ?_ | fail | fail)
  all_goals first | (exfalso; omega) | skip
  refine Fin.wk (Wk.shrink 0 0 rfl (Nat.zero_le _) rfl) ?_
  (first | exact Fin.q Try.results74 (.cons (.tmp rfl) .nil) [0] | refine Fin.q Try.results74 (.cons (.tmp rfl) .nil) [0] (hr := (.t ?_)) | refine Fin.mkv (rs := _) Try.results74 (.cons (.tmp rfl) .nil) [0] (by decide) rfl ?_ ?_ ?_ <;> repeat' (skip; first | exact .nil | refine .cons rfl ?_ ?_ | refine .cons ?_ ?_ | refine .row ?_ | refine .rset ?_ | refine .box ?_ | exact .gone | refine .aggL ?_ | refine .tupL ?_ | refine .old rfl ?_ | refine .new rfl rfl rfl ?_ | exact .nl | exact .optr rfl | exact .nptr rfl rfl rfl | refine .t ?_ | exact .any _ | rfl))
 ·obtain rfl : n = 0 := by omega
  repeat' (first | ((with_reducible refine kAL ?_); (first | refine A_cap_nl rfl rfl rfl Ud.h rfl ?_ | refine uA ?_)) | refine uC ?_ | refine uA ?_ | refine uC ?_ | fail | fail)
  all_goals first | (exfalso; omega) | skip
  refine Fin.wk (Wk.own 4 rfl 82 3 (.push rfl rfl)) ?_
  (first | exact Fin.q Try.results74 (.cons (.tmp rfl) .nil) [0] | refine Fin.q Try.results74 (.cons (.tmp rfl) .nil) [0] (hr := (.t ?_)) | refine Fin.mkv (rs := _) Try.results74 (.cons (.tmp rfl) .nil) [0] (by decide) rfl ?_ ?_ ?_ <;> repeat' (skip; first | exact .nil | refine .cons rfl ?_ ?_ | refine .cons ?_ ?_ | refine .row ?_ | refine .rset ?_ | refine .box ?_ | exact .gone | refine .aggL ?_ | refine .tupL ?_ | refine .old rfl ?_ | refine .new rfl rfl rfl ?_ | exact .nl | exact .optr rfl | exact .nptr rfl rfl rfl | refine .t ?_ | exact .any _ | rfl))
def szQ (a b : List DXg) : Nat → Int
 | 0 => 0
 | 1 => a.length
 | _ => a.length + b.length
def cQ (a b : List DXg) : Nat → List DXg
 | 0 => []
 | 1 => a
 | _ => a ++ b
theorem concatX_c (a b : List DXg) (ha : a.length ≤ 1048576) (hb : b.length ≤ 1048576) : Cd Try.prog 53 [.ln [[.lst (a.map tXg)], [.lst (b.map tXg)]]] (.sl 0 0 (a ++ b).length) [.row 0 82 3 ((a ++ b).map tXg)] := by
 have h1 : (a.map tXg).length = a.length := List.length_map _
 have h2 : (b.map tXg).length = b.length := List.length_map _
 have hl : (a ++ b).length = a.length + b.length := List.length_append
 have cG := growX_c (a.length + b.length) (by omega)
 refine Cd.enter' Try.func53 rfl Try.ntmps53 rfl ?_
 repeat' (first | ((with_reducible refine kAL ?_); (first | (refine kL 12 rfl ?_; first | refine A_append_nlsub rfl rfl _ _ 49 rfl ud49 inf82 rfl rfl rfl rfl (by (try simp only [List.length_map, List.length_append, List.length_cons, List.length_nil]); omega) qB qB List.map_drop.symm (.push qL qN) ?_) | refine uA ?_)) | refine uC ?_ | refine kcp rfl (fun hc => ?_) (fun hc => ?_) | refine kcn rfl (fun hc => ?_) (fun hc => ?_) | refine kcb rfl (fun hc => ?_) (fun hc => ?_) | refine kcc rfl (fun hc => ?_) (fun hc => ?_) | fail)
 all_goals first | (exfalso; omega) | skip
 refine AW.loopP (fun (q : Nat) => q ≤ 2) (fun (q : Nat) => (pu (pu (pu (pu (pu (fun _ => .any) 0 (.ln [[.lst (a.map tXg)], [.lst (b.map tXg)]])) 3 (i64 (szQ a b q))) 9 (.ln [[.lst (a.map tXg)], [.lst (b.map tXg)]])) 10 (i64 2)) 11 (i64 q))) (fun (q : Nat) => []) (fun (q : Nat) => 2 - q) (0) ?_ ?_ ?_
 ·exact Nat.zero_le _
 ·exact Wk.cq 0
 ·intro q hq
  rcases (show q = 0 ∨ q = 1 ∨ q = 2 by omega) with rfl | rfl | rfl
  ·have e0 : szQ a b 0 = 0 := rfl
   rw [e0]
   repeat' (first | ((with_reducible refine kAL ?_); (first | (refine kL 12 rfl ?_; first | refine A_append_nlsub rfl rfl _ _ 49 rfl ud49 inf82 rfl rfl rfl rfl (by (try simp only [List.length_map, List.length_append, List.length_cons, List.length_nil]); omega) qB qB List.map_drop.symm (.push qL qN) ?_) | refine uA ?_)) | refine uC ?_ | refine kcp rfl (fun hc => ?_) (fun hc => ?_) | refine kcn rfl (fun hc => ?_) (fun hc => ?_) | refine kcb rfl (fun hc => ?_) (fun hc => ?_) | refine kcc rfl (fun hc => ?_) (fun hc => ?_) | fail)
   all_goals first | (exfalso; omega) | skip
   refine ⟨1, by omega, by omega, ?_⟩
   rw [show szQ a b 1 = 0 + (a.map tXg).length by unfold szQ; rw [h1]; simp]
   exact Wk.cq 0
  ·have e0 : szQ a b 1 = a.length := rfl
   rw [e0]
   repeat' (first | ((with_reducible refine kAL ?_); (first | (refine kL 12 rfl ?_; first | refine A_append_nlsub rfl rfl _ _ 49 rfl ud49 inf82 rfl rfl rfl rfl (by (try simp only [List.length_map, List.length_append, List.length_cons, List.length_nil]); omega) qB qB List.map_drop.symm (.push qL qN) ?_) | refine uA ?_)) | refine uC ?_ | refine kcp rfl (fun hc => ?_) (fun hc => ?_) | refine kcn rfl (fun hc => ?_) (fun hc => ?_) | refine kcb rfl (fun hc => ?_) (fun hc => ?_) | refine kcc rfl (fun hc => ?_) (fun hc => ?_) | fail)
   all_goals first | (exfalso; omega) | skip
   refine ⟨2, by omega, by omega, ?_⟩
   rw [show szQ a b 2 = a.length + (b.map tXg).length by rw [h2]; rfl]
   exact Wk.cq 0
  ·have e0 : szQ a b 2 = ((a.length + b.length : Nat) : Int) := by unfold szQ; simp
   rw [e0]
   repeat' (first | ((with_reducible refine kAL ?_); (first | (refine kL 12 rfl ?_; first | refine A_append_nlsub rfl rfl _ _ 49 rfl ud49 inf82 rfl rfl rfl rfl (by (try simp only [List.length_map, List.length_append, List.length_cons, List.length_nil]); omega) qB qB List.map_drop.symm (.push qL qN) ?_) | (refine kL 2378 rfl ?_; first | refine uK (cG) ?_) | refine uA ?_)) | refine uC ?_ | refine kcp rfl (fun hc => ?_) (fun hc => ?_) | refine kcn rfl (fun hc => ?_) (fun hc => ?_) | refine kcb rfl (fun hc => ?_) (fun hc => ?_) | refine kcc rfl (fun hc => ?_) (fun hc => ?_) | fail)
   all_goals first | (exfalso; omega) | skip
   refine AW.loopP (fun (q : Nat) => q ≤ 2) (fun (q : Nat) => (pu (pu (pu (pu (fun _ => .any) 6 (.sl 0 q (cQ a b q).length)) 25 (.ln [[.lst (a.map tXg)], [.lst (b.map tXg)]])) 26 (i64 2)) 27 (i64 q))) (fun (q : Nat) => [.row q 82 3 ((cQ a b q).map tXg)]) (fun (q : Nat) => 2 - q) (0) ?_ ?_ ?_
   ·exact Nat.zero_le _
   ·exact Wk.cq 1
   ·intro q hq
    rcases (show q = 0 ∨ q = 1 ∨ q = 2 by omega) with rfl | rfl | rfl
    ·rw [show cQ a b 0 = [] from rfl]
     repeat' (first | ((with_reducible refine kAL ?_); (first | (refine kL 12 rfl ?_; first | refine A_append_nlsub rfl rfl _ _ 49 rfl ud49 inf82 rfl rfl rfl rfl (by (try simp only [List.length_map, List.length_append, List.length_cons, List.length_nil]); omega) qB qB List.map_drop.symm (.push qL qN) ?_) | refine uA ?_)) | refine uC ?_ | refine kcp rfl (fun hc => ?_) (fun hc => ?_) | refine kcn rfl (fun hc => ?_) (fun hc => ?_) | refine kcb rfl (fun hc => ?_) (fun hc => ?_) | refine kcc rfl (fun hc => ?_) (fun hc => ?_) | fail)
     all_goals first | (exfalso; omega) | skip
     refine ⟨1, by omega, by omega, ?_⟩
     rw [show cQ a b 1 = a from rfl]
     exact Wk.cq 1
    ·rw [show cQ a b 1 = a from rfl]
     repeat' (first | ((with_reducible refine kAL ?_); (first | (refine kL 12 rfl ?_; first | refine A_append_nlsub rfl rfl _ _ 49 rfl ud49 inf82 rfl rfl rfl rfl (by (try simp only [List.length_map, List.length_append, List.length_cons, List.length_nil]); omega) qB qB List.map_drop.symm (.push qL qN) ?_) | refine uA ?_)) | refine uC ?_ | refine kcp rfl (fun hc => ?_) (fun hc => ?_) | refine kcn rfl (fun hc => ?_) (fun hc => ?_) | refine kcb rfl (fun hc => ?_) (fun hc => ?_) | refine kcc rfl (fun hc => ?_) (fun hc => ?_) | fail)
     all_goals first | (exfalso; omega) | skip
     refine ⟨2, by omega, by omega, ?_⟩
     rw [show cQ a b 2 = a ++ b from rfl, List.length_append]
     exact Wk.cq 1
    ·rw [show cQ a b 2 = a ++ b from rfl]
     repeat' (first | ((with_reducible refine kAL ?_); (first | (refine kL 12 rfl ?_; first | refine A_append_nlsub rfl rfl _ _ 49 rfl ud49 inf82 rfl rfl rfl rfl (by (try simp only [List.length_map, List.length_append, List.length_cons, List.length_nil]); omega) qB qB List.map_drop.symm (.push qL qN) ?_) | refine uA ?_)) | refine uC ?_ | refine kcp rfl (fun hc => ?_) (fun hc => ?_) | refine kcn rfl (fun hc => ?_) (fun hc => ?_) | refine kcb rfl (fun hc => ?_) (fun hc => ?_) | refine kcc rfl (fun hc => ?_) (fun hc => ?_) | fail)
     all_goals first | (exfalso; omega) | ((first | exact Fin.q Try.results53 (.cons (.tmp rfl) .nil) [0] | refine Fin.q Try.results53 (.cons (.tmp rfl) .nil) [0] (hr := (.t ?_)) | refine Fin.mkv (rs := _) Try.results53 (.cons (.tmp rfl) .nil) [0] (by decide) rfl ?_ ?_ ?_ <;> repeat' (skip; first | exact .nil | refine .cons rfl ?_ ?_ | refine .cons ?_ ?_ | refine .row ?_ | refine .rset ?_ | refine .box ?_ | exact .gone | refine .aggL ?_ | refine .tupL ?_ | refine .old rfl ?_ | refine .new rfl rfl rfl ?_ | exact .nl | exact .optr rfl | exact .nptr rfl rfl rfl | refine .t ?_ | exact .any _ | rfl)))
theorem then1_c (x : DXg) : Cd Try.prog 55 [.agg ((tXg x).map .t)] (bo (decide (x.old = x.now))) [] := by
 obtain ⟨xa, xo, xn⟩ := x
 by_cases h : xo = xn
 ·rw [decide_eq_true h]
  refine Cd.enter' Try.func55 rfl Try.ntmps55 rfl ?_
  repeat' (first | refine uA ?_ | refine uC ?_ | refine kcp rfl (fun hc => ?_) (fun hc => ?_) | refine kcn rfl (fun hc => ?_) (fun hc => ?_) | refine kcb rfl (fun hc => ?_) (fun hc => ?_) | refine kcc rfl (fun hc => ?_) (fun hc => ?_) | fail)
  all_goals first | (exfalso; omega) | ((first | exact Fin.q Try.results55 (.cons (.tmp rfl) .nil) [] | refine Fin.q Try.results55 (.cons (.tmp rfl) .nil) [] (hr := (.t ?_)) | refine Fin.mkv (rs := _) Try.results55 (.cons (.tmp rfl) .nil) [] (by decide) rfl ?_ ?_ ?_ <;> repeat' (skip; first | exact .nil | refine .cons rfl ?_ ?_ | refine .cons ?_ ?_ | refine .row ?_ | refine .rset ?_ | refine .box ?_ | exact .gone | refine .aggL ?_ | refine .tupL ?_ | refine .old rfl ?_ | refine .new rfl rfl rfl ?_ | exact .nl | exact .optr rfl | exact .nptr rfl rfl rfl | refine .t ?_ | exact .any _ | rfl)))
 ·rw [decide_eq_false h]
  refine Cd.enter' Try.func55 rfl Try.ntmps55 rfl ?_
  repeat' (first | refine uA ?_ | refine uC ?_ | refine kcp rfl (fun hc => ?_) (fun hc => ?_) | refine kcn rfl (fun hc => ?_) (fun hc => ?_) | refine kcb rfl (fun hc => ?_) (fun hc => ?_) | refine kcc rfl (fun hc => ?_) (fun hc => ?_) | fail)
  all_goals first | (exfalso; omega) | ((first | exact Fin.q Try.results55 (.cons (.tmp rfl) .nil) [] | refine Fin.q Try.results55 (.cons (.tmp rfl) .nil) [] (hr := (.t ?_)) | refine Fin.mkv (rs := _) Try.results55 (.cons (.tmp rfl) .nil) [] (by decide) rfl ?_ ?_ ?_ <;> repeat' (skip; first | exact .nil | refine .cons rfl ?_ ?_ | refine .cons ?_ ?_ | refine .row ?_ | refine .rset ?_ | refine .box ?_ | exact .gone | refine .aggL ?_ | refine .tupL ?_ | refine .old rfl ?_ | refine .new rfl rfl rfl ?_ | exact .nl | exact .optr rfl | exact .nptr rfl rfl rfl | refine .t ?_ | exact .any _ | rfl)))
theorem idxFX_c (f : FuncId) (fi cap : List AV) (p : DXg → Bool) (l : List DXg) (hg : ∀ c ∈ l, CV Try.prog (.fn (.func f) fi cap) [.agg ((tXg c).map .t)] (.t (.v (.bool (p c)))) []) (hup : upB (keepG 0) (.fn (.func f) fi cap) = .fn (.func f) fi cap)
  (hl : l.length ≤ 1152921504606846976) : Cd Try.prog 75 [.ln (l.map tXg), .fn (.func f) fi cap] (i64 (ixF p l)) [] := by
 have h1 : (l.map tXg).length = l.length := List.length_map _
 refine Cd.enter' Try.func75 rfl Try.ntmps75 rfl ?_
 repeat' (first | refine uA ?_ | refine uC ?_ | refine kcp rfl (fun hc => ?_) (fun hc => ?_) | refine kcn rfl (fun hc => ?_) (fun hc => ?_) | refine kcb rfl (fun hc => ?_) (fun hc => ?_) | refine kcc rfl (fun hc => ?_) (fun hc => ?_) | fail)
 refine AW.loopP (fun (q : Nat) => q ≤ l.length ∧ ∀ j, j < q → ∀ b, l[j]? = some b → p b = false) (fun (q : Nat) => (pu (pu (pu (pu (fun _ => .any) 0 (.ln (l.map tXg))) 1 (.fn (.func f) fi cap)) 7 (i64 (l.map tXg).length)) 8 (i64 q))) (fun (q : Nat) => []) (fun (q : Nat) => l.length - q) (0) ?_ ?_ ?_
 ·exact ⟨Nat.zero_le _, fun j hj => by omega⟩
 ·exact Wk.cq 0
 ·rintro q ⟨h2, h3⟩
  by_cases hq : q < l.length
  ·obtain ⟨a, ha⟩ : ∃ a, l[q]? = some a := ⟨_, List.getElem?_eq_getElem hq⟩
   have c1 := hg a (List.mem_of_getElem? ha)
   cases hp : p a
   ·rw [hp] at c1
    repeat' (first | ((with_reducible refine kAL ?_); (first | (refine kL 11 rfl ?_; first | refine uV (c1) ?_) | refine uA ?_)) | refine uC ?_ | refine kcp rfl (fun hc => ?_) (fun hc => ?_) | refine kcn rfl (fun hc => ?_) (fun hc => ?_) | refine kcb rfl (fun hc => ?_) (fun hc => ?_) | refine kcc rfl (fun hc => ?_) (fun hc => ?_) | fail)
    all_goals first | (exfalso; omega) | skip
    refine ⟨q + 1, ⟨by omega, fun j hj b hb => ?_⟩, by omega, ?_⟩
    ·by_cases e : j = q
     ·subst e; rw [ha] at hb; cases hb; exact hp
     ·exact h3 j (by omega) b hb
    ·exact Wk.cq 0
   ·rw [hp] at c1
    rw [ixF_at p l q a h3 ha hp]
    repeat' (first | ((with_reducible refine kAL ?_); (first | (refine kL 11 rfl ?_; first | refine uV (c1) ?_) | refine uA ?_)) | refine uC ?_ | refine kcp rfl (fun hc => ?_) (fun hc => ?_) | refine kcn rfl (fun hc => ?_) (fun hc => ?_) | refine kcb rfl (fun hc => ?_) (fun hc => ?_) | refine kcc rfl (fun hc => ?_) (fun hc => ?_) | fail)
    all_goals first | (exfalso; omega) | ((first | exact Fin.q Try.results75 (.cons (.tmp rfl) .nil) [] | refine Fin.q Try.results75 (.cons (.tmp rfl) .nil) [] (hr := (.t ?_)) | refine Fin.mkv (rs := _) Try.results75 (.cons (.tmp rfl) .nil) [] (by decide) rfl ?_ ?_ ?_ <;> repeat' (skip; first | exact .nil | refine .cons rfl ?_ ?_ | refine .cons ?_ ?_ | refine .row ?_ | refine .rset ?_ | refine .box ?_ | exact .gone | refine .aggL ?_ | refine .tupL ?_ | refine .old rfl ?_ | refine .new rfl rfl rfl ?_ | exact .nl | exact .optr rfl | exact .nptr rfl rfl rfl | refine .t ?_ | exact .any _ | rfl)))
  ·rw [ixF_none p l fun j b hb => h3 j (by have := get_lt hb; omega) b hb]
   repeat' (first | refine uA ?_ | refine uC ?_ | refine kcp rfl (fun hc => ?_) (fun hc => ?_) | refine kcn rfl (fun hc => ?_) (fun hc => ?_) | refine kcb rfl (fun hc => ?_) (fun hc => ?_) | refine kcc rfl (fun hc => ?_) (fun hc => ?_) | fail)
   all_goals first | (exfalso; omega) | ((first | exact Fin.q Try.results75 (.cons (.tmp rfl) .nil) [] | refine Fin.q Try.results75 (.cons (.tmp rfl) .nil) [] (hr := (.t ?_)) | refine Fin.mkv (rs := _) Try.results75 (.cons (.tmp rfl) .nil) [] (by decide) rfl ?_ ?_ ?_ <;> repeat' (skip; first | exact .nil | refine .cons rfl ?_ ?_ | refine .cons ?_ ?_ | refine .row ?_ | refine .rset ?_ | refine .box ?_ | exact .gone | refine .aggL ?_ | refine .tupL ?_ | refine .old rfl ?_ | refine .new rfl rfl rfl ?_ | exact .nl | exact .optr rfl | exact .nptr rfl rfl rfl | refine .t ?_ | exact .any _ | rfl)))
theorem ixF_first {α : Type} (p : α → Bool) : ∀ (l : List α) (q : Nat), (q : Int) < ixF p l → ∀ b : α, l[q]? = some b → p b = false
 | [], q, _, b, hb => by simp at hb
 | a :: l, q, h, b, hb => by
  unfold ixF at h
  cases hp : p a
  ·rw [hp, if_neg (by decide)] at h
   split at h
   ·omega
   ·cases q with
    | zero => simp at hb; subst hb; exact hp
    | succ q => exact ixF_first p l q (by omega) b (by simpa using hb)
  ·rw [hp, if_pos rfl] at h; omega
theorem kpI {l : List DXg} (h : ∀ x ∈ l, x.old ≠ x.now) : kpX l = l := List.filter_eq_self.2 fun x hx => by simp [h x hx]
abbrev dxP (x : DXg) : Bool := decide (x.old = x.now)
theorem kpX_next {l : List DXg} {q : Nat} {x : DXg} (h : l[q]? = some x) : kpX (l.take (q + 1)) = if x.old = x.now then kpX (l.take q) else kpX (l.take q) ++ [x] := by
 unfold kpX
 rw [List.take_add_one, h, List.filter_append]
 by_cases e : x.old = x.now <;> simp [e]
theorem kpX_len (l : List DXg) : (kpX l).length ≤ l.length := List.length_filter_le _ _
theorem delX_c (f : FuncId) (cv : ∀ x : DXg, CV Try.prog (.fn (.func f) [] []) [.agg ((tXg x).map .t)] (.t (.v (.bool (dxP x)))) []) {k : Nat} (l : List DXg) (hl : l.length ≤ 4194304) : Cio Try.prog 54 [.sl 0 k l.length, .fn (.func f) [] []] [.row k 82 3 (l.map tXg)] (.sl 0 k (kpX l).length) [.row k 82 3 ((kpX l).map tXg)] := by
 have h1 : (l.map tXg).length = l.length := List.length_map _
 have cI := idxFX_c f [] [] dxP l (fun x _ => cv x) rfl (by omega)
 refine Cio.enter' Try.func54 rfl Try.ntmps54 rfl qM ?_
 by_cases h0 : 0 ≤ ixF dxP l
 ·obtain ⟨x0, hx0, hp0⟩ := ixF_get dxP l h0
  generalize hj : (ixF dxP l).toNat = j at *
  have hji : ixF dxP l = (j : Int) := by omega
  rw [hji] at cI
  have hjl := get_lt hx0
  have hpre : kpX (l.take j) = l.take j := kpI fun x hx => by
   obtain ⟨q, hq⟩ := List.mem_iff_getElem?.1 hx
   rw [List.getElem?_take] at hq
   split at hq
   ·rename_i hlt
    intro e
    exact Bool.noConfusion ((ixF_first dxP l q (by omega) x hq).symm.trans (decide_eq_true e))
   ·cases hq
  have hK0 : kpX (l.take (j + 1)) = l.take j := by rw [kpX_next hx0, if_pos (of_decide_eq_true hp0), hpre]
  repeat' (first | ((with_reducible refine kAL ?_); (first | (refine kL 2410 rfl ?_; first | refine uK (cI) ?_) | (refine kL 12 rfl ?_; first | refine A_clear rfl rfl rfl ud49 inf82 rfl rfl rfl rfl (by first | omega | (simp <;> fail) | (simp; omega)) qN ?_) | refine uA ?_)) | refine uC ?_ | refine kcp rfl (fun hc => ?_) (fun hc => ?_) | refine kcn rfl (fun hc => ?_) (fun hc => ?_) | refine kcb rfl (fun hc => ?_) (fun hc => ?_) | refine kcc rfl (fun hc => ?_) (fun hc => ?_) | fail)
  all_goals first | (exfalso; omega) | skip
  refine AW.loopP (fun (x : Nat × List DXg) => x.1 ≤ l.length ∧ x.2.length = l.length ∧ (kpX (l.take x.1)).length < x.1 ∧ x.2.take (kpX (l.take x.1)).length = kpX (l.take x.1) ∧ ∀ i, x.1 ≤ i → x.2[i]? = l[i]?) (fun (x : Nat × List DXg) => (pu (pu (pu (pu (fun _ => .any) 0 (.sl 0 k l.length)) 1 (.fn (.func f) [] [])) 5 (i64 (kpX (l.take x.1)).length)) 6 (i64 x.1))) (fun (x : Nat × List DXg) => [.row k 82 3 (x.2.map tXg)]) (fun (x : Nat × List DXg) => l.length - x.1) ((j + 1, l)) ?_ ?_ ?_
  ·dsimp only
   rw [hK0, List.length_take, Nat.min_eq_left (by omega)]
   exact ⟨by omega, rfl, by omega, rfl, fun _ _ => rfl⟩
  ·dsimp only
   rw [hK0, List.length_take, Nat.min_eq_left (by omega)]
   exact Wk.cq 1
  ·rintro ⟨q, M⟩ ⟨hq, hM, hK, hT, hR⟩
   dsimp only at hq hM hK hT hR ⊢
   have hM1 : (M.map tXg).length = l.length := by rw [List.length_map, hM]
   by_cases hq2 : q < l.length
   ·obtain ⟨x, hx⟩ : ∃ x, l[q]? = some x := ⟨_, List.getElem?_eq_getElem hq2⟩
    have hMx : M[q]? = some x := by rw [hR q (Nat.le_refl _), hx]
    have hn := kpX_next hx
    have c1 := cv x
    by_cases e : x.old = x.now
    ·rw [if_pos e] at hn
     rw [show dxP x = true from decide_eq_true e] at c1
     generalize hKq : kpX (l.take q) = K at *
     obtain ⟨xa, xo, xn⟩ := x
     repeat' (first | ((with_reducible refine kAL ?_); (first | (refine kL 12 rfl ?_; first | refine A_clear rfl rfl rfl ud49 inf82 rfl rfl rfl rfl (by first | omega | (simp <;> fail) | (simp; omega)) qN ?_) | (refine kL 11 rfl ?_; first | refine uV (c1) ?_) | refine uA ?_)) | refine uC ?_ | refine kcp rfl (fun hc => ?_) (fun hc => ?_) | refine kcn rfl (fun hc => ?_) (fun hc => ?_) | refine kcb rfl (fun hc => ?_) (fun hc => ?_) | refine kcc rfl (fun hc => ?_) (fun hc => ?_) | fail)
     all_goals first | (exfalso; omega) | skip
     refine ⟨(q + 1, M), ⟨by dsimp only; omega, hM, by dsimp only; rw [hn]; omega, by dsimp only; rw [hn]; exact hT, fun i hi => hR i (by dsimp only at hi; omega)⟩, by dsimp only; omega, ?_⟩
     dsimp only
     rw [hn]
     exact Wk.cq 1
    ·rw [if_neg e] at hn
     rw [show dxP x = false from decide_eq_false e] at c1
     generalize hKq : kpX (l.take q) = K at *
     obtain ⟨y, hy⟩ : ∃ y, M[K.length]? = some y := ⟨_, List.getElem?_eq_getElem (by omega)⟩
     obtain ⟨xa, xo, xn⟩ := x
     repeat' (first | ((with_reducible refine kAL ?_); (first | (refine kL 12 rfl ?_; first | refine A_clear rfl rfl rfl ud49 inf82 rfl rfl rfl rfl (by first | omega | (simp <;> fail) | (simp; omega)) qN ?_) | (refine kL 2627 rfl ?_; first | refine A_store_rp rfl rfl 82 _ _ rfl inf82 (by decide) rfl rfl (by first | exact map_get (by assumption) | assumption | exact map_get hMx | exact map_get hy) rfl rfl rfl (Nat.le_of_ble_eq_true rfl) (by first | exact map_set (f := tXg) (x := ⟨xa, xo, xn⟩) | exact qN) qN ?_) | (refine kL 11 rfl ?_; first | refine uV (c1) ?_) | refine uA ?_)) | refine uC ?_ | refine kcp rfl (fun hc => ?_) (fun hc => ?_) | refine kcn rfl (fun hc => ?_) (fun hc => ?_) | refine kcb rfl (fun hc => ?_) (fun hc => ?_) | refine kcc rfl (fun hc => ?_) (fun hc => ?_) | fail)
     all_goals first | (exfalso; omega) | skip
     refine ⟨(q + 1, M.set K.length ⟨xa, xo, xn⟩), ⟨by dsimp only; omega, by dsimp only; rw [List.length_set]; exact hM, by dsimp only; rw [hn, List.length_append, List.length_singleton]; omega, ?_, fun i hi => ?_⟩, by dsimp only; omega, ?_⟩
     ·dsimp only
      rw [hn, List.length_append, List.length_singleton, List.take_add_one, List.getElem?_set, if_pos rfl, if_pos (by omega), List.take_set_of_le (Nat.le_refl _), hT]
      rfl
     ·dsimp only at hi ⊢
      rw [List.getElem?_set, if_neg (by omega)]
      exact hR i (by omega)
     ·dsimp only
      rw [hn, List.length_append, List.length_singleton]
      exact Wk.cq 1
   ·have e : q = l.length := by omega
    subst e
    rw [List.take_length] at *
    repeat' (first | ((with_reducible refine kAL ?_); (first | (refine kL 12 rfl ?_; first | refine A_clear rfl rfl rfl ud49 inf82 rfl rfl rfl rfl (by first | omega | (simp <;> fail) | (simp; omega)) qN ?_) | refine uA ?_)) | refine uC ?_ | refine kcp rfl (fun hc => ?_) (fun hc => ?_) | refine kcn rfl (fun hc => ?_) (fun hc => ?_) | refine kcb rfl (fun hc => ?_) (fun hc => ?_) | refine kcc rfl (fun hc => ?_) (fun hc => ?_) | fail)
    all_goals first | (exfalso; omega) | skip
    rw [← List.map_take, hT]
    (first | exact Fin.q Try.results54 (.cons (.tmp rfl) .nil) [] | refine Fin.q Try.results54 (.cons (.tmp rfl) .nil) [] (hr := (.t ?_)) | refine Fin.mkv (rs := _) Try.results54 (.cons (.tmp rfl) .nil) [] (by decide) rfl ?_ ?_ ?_ <;> repeat' (skip; first | exact .nil | refine .cons rfl ?_ ?_ | refine .cons ?_ ?_ | refine .row ?_ | refine .rset ?_ | refine .box ?_ | exact .gone | refine .aggL ?_ | refine .tupL ?_ | refine .old rfl ?_ | refine .new rfl rfl rfl ?_ | exact .nl | exact .optr rfl | exact .nptr rfl rfl rfl | refine .t ?_ | exact .any _ | rfl))
 ·have hno : ∀ (q : Nat) b, l[q]? = some b → dxP b = false := fun q b hb => by
   cases hp : dxP b
   ·rfl
   ·exact absurd (ixF_yes dxP hb hp) h0
  have hid : kpX l = l := kpI fun x hx => by
   obtain ⟨q, hq⟩ := List.getElem?_of_mem hx
   exact of_decide_eq_false (hno q x hq)
  rw [ixF_none dxP l hno] at cI
  rw [hid]
  repeat' (first | ((with_reducible refine kAL ?_); (first | (refine kL 2410 rfl ?_; first | refine uK (cI) ?_) | (refine kL 12 rfl ?_; first | refine A_clear rfl rfl rfl ud49 inf82 rfl rfl rfl rfl (by first | omega | (simp <;> fail) | (simp; omega)) qN ?_) | refine uA ?_)) | refine uC ?_ | refine kcp rfl (fun hc => ?_) (fun hc => ?_) | refine kcn rfl (fun hc => ?_) (fun hc => ?_) | refine kcb rfl (fun hc => ?_) (fun hc => ?_) | refine kcc rfl (fun hc => ?_) (fun hc => ?_) | fail)
  all_goals first | (exfalso; omega) | ((first | exact Fin.q Try.results54 (.cons (.tmp rfl) .nil) [] | refine Fin.q Try.results54 (.cons (.tmp rfl) .nil) [] (hr := (.t ?_)) | refine Fin.mkv (rs := _) Try.results54 (.cons (.tmp rfl) .nil) [] (by decide) rfl ?_ ?_ ?_ <;> repeat' (skip; first | exact .nil | refine .cons rfl ?_ ?_ | refine .cons ?_ ?_ | refine .row ?_ | refine .rset ?_ | refine .box ?_ | exact .gone | refine .aggL ?_ | refine .tupL ?_ | refine .old rfl ?_ | refine .new rfl rfl rfl ?_ | exact .nl | exact .optr rfl | exact .nptr rfl rfl rfl | refine .t ?_ | exact .any _ | rfl)))
end
end Go.Proofs.Ytnibnbcmnaflmaa
