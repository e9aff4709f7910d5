/- Rows over trees: append, make, slices that are typed out, pieces; structs; what is frozen. No program in sight. -/
import Derived.Test.YtkichjejadkdgaaTOps
namespace Go.Proofs.Ytkichjejadkdgaa
set_option linter.unusedVariables false
set_option linter.unusedSimpArgs false
set_option linter.unnecessarySimpa false
open Go.RowKit
theorem holds_take {B : Nat} {w : World} {a : Option Addr} {n c m : Nat} {E : TypeId} {size : Nat} {xs : List Value} (h : (Res.row a n c E size xs).holds B w) (hm : m ≤ n) : (Res.row a m c E size (xs.take (m * size))).holds B w := by
  have hle : m * size ≤ n * size := Nat.mul_le_mul_right _ hm
  rcases h with ⟨h1, h2, h3⟩ | ⟨h1, h2, h3⟩
  · exact .inl ⟨h1, by omega, by rw [h3]; simp⟩
  · refine .inr ⟨h1, by rw [List.length_take]; omega, ?_⟩
    rcases h3 with ⟨h3, h4⟩ | ⟨g, cap, cur, e, h4, h5, h6, h7, h8, h9⟩
    · simp only [Value.slice.injEq] at h3; omega
    · simp only [Value.slice.injEq] at e
      obtain ⟨rfl, _, rfl⟩ := e
      exact .inr ⟨g, c, cur, rfl, h4, h5, by omega, h7, h8, by rw [← h9, List.take_take, Nat.min_eq_left hle]⟩
section
variable {P : Program} {ops : Array Oper} {Q : QS} {rest : List Oper} {o : Oper} {n : Fr} {T : Nat → AV} {heap : List Ob} {d : Nat}
/-- append, to an own row. -/
theorem A_append (hw : wantedA n T ops o = true) (hd : o.dst = some d) (s x : Operand) (t : TypeId) (ho : o.op = .call { callee := .builtin .append, args := #[s, x], argTypes := #[t, t] })
    {e : TypeId} (ht : P.underlying t = some (.slice e)) {z : Value} {size bytes : Nat} (hI : (P.info? e).map (fun i => (i.zero, i.size, i.bytes)) = some (some z, size, bytes)) (hzs : z.cells.size = size)
    {i k' m : Nat} (hs : evA n T s = .sl i k' m) {els : List (List Tr)} (hi : heap[i]? = some (.row k' e size els)) (hm : m ≤ els.length) {news : List (List Tr)} (hx : Rd heap size (evA n T x) news) (b1 : m + news.length ≤ maxLen) (b2 : (m + news.length) * bytes ≤ 140737488355328)
    {els' : List (List Tr)} (he : els.take m ++ news = els') {heap' : List Ob} (hh : heap.set i (.row (k' + 1) e size els') = heap') {m' : Nat} (hm' : m + news.length = m') (k : AL P ops Q rest n (pu T d (.sl i (k' + 1) m')) heap') : AL P ops Q (o :: rest) n T heap := by
  subst he hh hm'
  refine AL.act hw hd (fun en a w ρ Z Y hR => ?_) k
  obtain ⟨inf, hin, hz, hsz, hby⟩ := info_of hI
  subst hsz hby
  have hrep := hR.ok.rep
  obtain ⟨h1, xs, h2, h3, h4⟩ := hrep.row hi
  obtain ⟨xa, xc, ys, g1, g2, g3⟩ := hx.open hrep (hR.eval x)
  have hv := hR.eval s
  rw [hs] at hv
  generalize hax : a.eval s = vx at hv
  cases hv with
  | sl hk hcc _ =>
  obtain ⟨a', c', w', r1, r2, r3, r4⟩ := run_append_any (P := P) t o.type ht hin hz hzs (holds_take h3 hm) (rs_take h4 hm) xa news.length xc g2 g3.one b1 b2
  let ρ' : Rho := fun j q => if j = i ∧ q = k' + 1 then ⟨a', c', inf.size⟩ else ρ j q
  have hnew : ρ' i (k' + 1) = ⟨a', c', inf.size⟩ := if_pos ⟨rfl, rfl⟩
  have hρ : ∀ j q, Kn heap j q → ρ' j q = ρ j q := fun j q ⟨p, hp, hq⟩ => if_neg fun ⟨e1, e2⟩ => by
    subst e1; rw [hi] at hp; cases hp; simp [Ob.lim] at hq; omega
  have hsame : ∀ b', b' < w.heap.size → (Ob.row k' e inf.size els).blk ρ i ≠ some b' → w'.heap[b']? = w.heap[b']? := fun b' hb' hne => r3.block b' hb' (fun e => hne e.symm)
  have hzz : ∀ b, Z b → Z b ∧ w'.heap[b]? = w.heap[b]? := fun b hb => ⟨hb, hsame b (hrep.ylt b (hrep.zy b hb)) (hrep.notin hi (hrep.zy b hb))⟩
  have hm : ∀ x v, Val (Kn heap) ρ w Z Y x v → Val (Kn (heap.set i (.row (k' + 1) e inf.size (els.take m ++ news)))) ρ' w' Z Y x v := fun x v hv =>
    hrep.val (fun j q hj => ⟨hj.set hi (by exact Nat.le_succ _), hρ j q hj⟩) (fun _ h => h) (fun b' hb' => ⟨hb', hsame b' (hrep.ylt b' hb') (hrep.notin hi hb')⟩) hv
  have hlen : (els.take m ++ news).length = m + news.length := by rw [List.length_append, List.length_take]; omega
  have hel := ((h2.take m).append g3).mono fun _ _ h => Frz.mono hzz h
  have hres : (Res.row (ρ' i (k' + 1)).a (els.take m ++ news).length (ρ' i (k' + 1)).c e inf.size (xs.take (m * inf.size) ++ ys)).holds 0 w' := by rw [hnew, hlen]; exact r2
  have hcap := (rs_of_holds hres).cap
  rw [hlen] at hcap
  refine ⟨.slice a' (m + news.length) c', w', ρ', Z, Y, ?_, hR.ok.turn hi (by exact Nat.le_succ _) hρ ⟨r3.os, r3.tape, r3.output⟩ r3.size hsame ⟨by rw [hnew], _, hel, hres⟩ (fun b hb => ?_), hm, ?_⟩
  · unfold execOp
    simp only [ho, resolve, invoke, builtin, Sem.run_bind, Sem.run_pure, Result.andThen_ok, List.map_toArray, List.map_cons, List.map_nil, hax, g1, r1]
  · refine r4 b ?_
    simp only [Ob.blk, hnew] at hb
    exact hb
  · have := Val.sl (Kn := Kn (heap.set i (.row (k' + 1) e inf.size (els.take m ++ news)))) (ρ := ρ') (w := w') (Z := Z) (Y := Y) (i := i) (k := k' + 1) (n := m + news.length) ⟨_, by rw [List.getElem?_set, if_pos rfl, if_pos (get_lt hi)], Nat.le_refl _⟩ hcap (fun e => ((rs_of_holds hres).none e).2)
    rw [hnew] at this
    exact this
/-- append, to a slice without room. -/
theorem A_append_nl (hw : wantedA n T ops o = true) (hd : o.dst = some d) (s x : Operand) (t : TypeId) (ho : o.op = .call { callee := .builtin .append, args := #[s, x], argTypes := #[t, t] })
    {e : TypeId} (ht : P.underlying t = some (.slice e)) {z : Value} {size bytes : Nat} (hI : (P.info? e).map (fun i => (i.zero, i.size, i.bytes)) = some (some z, size, bytes)) (hzs : z.cells.size = size)
    (hs : evA n T s = .nl) {news : List (List Tr)} (hx : Rd heap size (evA n T x) news) (b1 : news.length ≤ maxLen) (b2 : news.length * bytes ≤ 140737488355328) {els' : List (List Tr)} (he : news = els')
    {heap' : List Ob} {N : Nat} (hat : AtL heap N [.row 0 e size els'] heap') {m' : Nat} (hm' : news.length = m') (k : AL P ops Q rest n (pu T d (.sl N 0 m')) heap') : AL P ops Q (o :: rest) n T heap := by
  subst hm' he
  refine AL.act hw hd (fun en a w ρ Z Y hR => ?_) k
  obtain ⟨inf, hin, hz, hsz, hby⟩ := info_of hI
  subst hsz hby
  have hrep := hR.ok.rep
  obtain ⟨xa, xc, ys, g1, g2, g3⟩ := hx.open hrep (hR.eval x)
  have hv := hR.eval s
  rw [hs] at hv
  generalize hax : a.eval s = vx at hv
  cases hv with
  | nl sa =>
  obtain ⟨a', c', w', r1, r2, r3, r4⟩ := run_append_any (P := P) t o.type ht hin hz hzs (sa := sa) (n := 0) (c := 0) (xs := []) (.inl ⟨rfl, rfl, rfl⟩) ⟨Nat.le_refl _, Nat.zero_le _, fun _ => ⟨rfl, rfl⟩, by simp, fun j u h => by simp at h⟩ xa news.length xc g2 g3.one (by omega) (by rw [Nat.zero_add]; exact b2)
  rw [Nat.zero_add] at r1 r2 r4
  rw [List.nil_append] at r2 r4
  have hsame : ∀ b, b < w.heap.size → w'.heap[b]? = w.heap[b]? := fun b hb => r3.block b hb (by simp)
  have hzz : ∀ b, Z b → Z b ∧ w'.heap[b]? = w.heap[b]? := fun b hb => ⟨hb, hsame b (hrep.ylt b (hrep.zy b hb))⟩
  have hcap := (rs_of_holds r2).cap
  obtain ⟨ρ', k1, k2, k3, k4⟩ := hR.ok.push1 (o := .row 0 e inf.size news) hat (w' := w') (pl := ⟨a', c', inf.size⟩) ⟨r3.os, r3.tape, r3.output⟩ r3.size hsame
    (fun ρ' hN hρ => ⟨by rw [hN], ys, g3.mono fun _ _ h => Frz.mono hzz h, by rw [hN]; exact r2⟩)
    (fun b _ hb => by
      rcases r4 b (by simpa [Ob.blk, Res.blk] using hb) with h | h
      · simp at h
      · exact h)
  refine ⟨.slice a' news.length c', w', ρ', Z, Y, ?_, k1, k2, ?_⟩
  · unfold execOp
    simp only [ho, resolve, invoke, builtin, Sem.run_bind, Sem.run_pure, Result.andThen_ok, List.map_toArray, List.map_cons, List.map_nil, hax, g1, r1]
  · have := Val.sl (Kn := Kn heap') (ρ := ρ') (w := w') (Z := Z) (Y := Y) (i := N) (k := 0) (n := news.length) ⟨_, hat.one, Nat.le_refl _⟩ (by rw [k3]; exact hcap) (by rw [k3]; exact fun e => ((rs_of_holds r2).none e).2)
    rw [k3] at this
    exact this
theorem A_make (hw : wantedA n T ops o = true) (hd : o.dst = some d) (t : TypeId) (l c : Operand) (ho : o.op = .makeSlice t l c) {e : TypeId} (ht : P.underlying t = some (.slice e)) {z : Value} {size bytes : Nat} (hI : (P.info? e).map (fun i => (i.zero, i.size, i.bytes)) = some (some z, size, bytes)) (hzs : z.cells.size = size)
    {zs : List Tr} (hz : ((ofConst z).flat.bind trsA) = some zs) {kl kc : IntKind} {L C : Int} (hl : evA n T l = .t (.v (.int kl L))) (hc : evA n T c = .t (.v (.int kc C))) (m : Nat) (hL : L = (m : Int)) (hC : C = (m : Int)) (b2 : bytes * m ≤ 281474976710656) (b3 : m ≤ maxLen) {els' : List (List Tr)} (he : List.replicate m zs = els')
    {heap' : List Ob} {N : Nat} (hat : AtL heap N [.row 0 e size els'] heap') (k : AL P ops Q rest n (pu T d (.sl N 0 m)) heap') : AL P ops Q (o :: rest) n T heap := by
  subst hL hC he
  refine AL.act hw hd (fun en a w ρ Z Y hR => ?_) k
  obtain ⟨inf, hin, hz', hsz, hby⟩ := info_of hI
  subst hsz hby
  have hrep := hR.ok.rep
  have hvl := hR.eval l
  rw [hl] at hvl
  have hvc := hR.eval c
  rw [hc] at hvc
  generalize hal : a.eval l = vl at hvl
  generalize hac : a.eval c = vc at hvc
  cases hvl with
  | t h => cases h with
    | v h => cases hvc with
      | t h' => cases h' with
        | v h' =>
        obtain ⟨w', r1, r2, r3⟩ := run_make_full (P := P) w w.heap.size t e inf z inf.size ht hin hz' rfl kl kc m b2 b3 (Nat.le_refl _)
        have hsame : ∀ b, b < w.heap.size → w'.heap[b]? = w.heap[b]? := fun b hb => r3.block b hb (by simp)
        have hzz : ∀ b, Z b → Z b ∧ w'.heap[b]? = w.heap[b]? := fun b hb => ⟨hb, hsame b (hrep.ylt b (hrep.zy b hb))⟩
        cases hfl : (ofConst z).flat with
        | none => rw [hfl] at hz; cases hz
        | some cs =>
        rw [hfl] at hz
        obtain ⟨us, u1, u2, u3⟩ := (val_ofConst (Kn := Kn heap) (ρ := ρ) (w := w') (Z := Z) (Y := Y) z).flat hfl
        obtain ⟨q1, q2⟩ := trsA_open hz u2
        have hus : us.length = inf.size := by rw [← hzs, u1]; simp
        have hflat : (madeCells z.cells (m * inf.size)).toList = (List.replicate m us).flatten := by
          have := made_flat (α := Unit) (enc := fun _ => us) (size := inf.size) (z := z.cells) (x := ()) (by rw [u1]) hus m
          rw [this, List.flatMap_def, List.map_replicate]
        have hres : (Res.row (some ⟨w.heap.size, 0, none⟩) m m e inf.size ((List.replicate m us).flatten)).holds 0 w' := by
          rw [← hflat]
          by_cases h0 : m = 0
          · exact .inl ⟨h0, h0, List.eq_nil_of_length_eq_zero (by rw [r2.1, h0]; simp)⟩
          · refine .inr ⟨by omega, r2.1, ?_⟩
            rcases r2.2 with h1 | ⟨g, cap, cur, e1, _, h5, h6, h7, h8, h9⟩
            · exact .inl h1
            · exact .inr ⟨g, cap, cur, e1, Nat.zero_le _, h5, h6, h7, h8, h9⟩
        obtain ⟨ρ', k1, k2, k3, k4⟩ := hR.ok.push1 (o := .row 0 e inf.size (List.replicate m zs)) hat (w' := w') (pl := ⟨some ⟨w.heap.size, 0, none⟩, m, inf.size⟩) ⟨r3.os, r3.tape, r3.output⟩ r3.size hsame
          (fun ρ' hN hρ => ⟨by rw [hN], _, Elems.replicate (by rw [q1, hus]) hus q2 m, by rw [hN, List.length_replicate]; exact hres⟩)
          (fun b hb hb' => by
            simp at hb; subst hb
            refine ⟨Nat.le_refl _, ?_⟩
            simp only [Ob.blk] at hb'
            split at hb'
            · cases hb'
            · exact (r2.lt w.heap.size rfl).2)
        refine ⟨.slice (some ⟨w.heap.size, 0, none⟩) m m, w', ρ', Z, Y, ?_, k1, k2, ?_⟩
        · unfold execOp
          simp only [ho, hal, hac, Sem.run_bind, r1, Result.andThen_ok, Sem.run_pure]
        · have := Val.sl (Kn := Kn heap') (ρ := ρ') (w := w') (Z := Z) (Y := Y) (i := N) (k := 0) (n := m) ⟨_, hat.one, Nat.le_refl _⟩ (by rw [k3]; exact Nat.le_refl _) (by rw [k3]; intro e; cases e)
          rw [k3] at this
          exact this
end
end Go.Proofs.Ytkichjejadkdgaa
