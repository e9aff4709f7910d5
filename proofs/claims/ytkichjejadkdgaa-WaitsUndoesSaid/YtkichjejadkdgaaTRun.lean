/- What single operations do in a world, without a word of what a call owns. No program in sight. -/
import Derived.Test.YtkichjejadkdgaaStep
namespace Go.Proofs.Ytkichjejadkdgaa
set_option linter.unusedVariables false
set_option linter.unusedSimpArgs false
set_option linter.unnecessarySimpa false
open Go.RowKit
section
variable {P : Program} {w : World}
theorem info_of {t : TypeId} {z : Option Value} {size bytes : Nat} (hI : (P.info? t).map (fun i => (i.zero, i.size, i.bytes)) = some (z, size, bytes)) : ∃ inf, P.info? t = some inf ∧ inf.zero = z ∧ inf.size = size ∧ inf.bytes = bytes := by
  cases hi : P.info? t with
  | none => rw [hi] at hI; simp at hI
  | some i => rw [hi] at hI; simp at hI; exact ⟨i, rfl, hI.1, hI.2.1, hI.2.2⟩
theorem run_append_any (t ot : TypeId) {e : TypeId} (ht : P.underlying t = some (.slice e)) {inf : TypeInfo} (hin : P.info? e = some inf) {z : Value} (hz : inf.zero = some z) (hzs : z.cells.size = inf.size)
    {sa : Option Addr} {n c : Nat} {xs : List Value} (hown : (Res.row sa n c e inf.size xs).holds 0 w) (hrs : Rs w inf.size sa n c xs)
    (xa : Option Addr) (m xc : Nat) {news : List Value} (hr : Rs w inf.size xa m xc news) (h1 : ∀ u ∈ news, u.oneCell' = true) (b1 : n + m ≤ maxLen) (b2 : (n + m) * inf.bytes ≤ 140737488355328) :
    ∃ a' c' w', (Builtin.append_ #[t, t] ot #[.slice sa n c, .slice xa m xc]).run P w = .ok (.slice a' (n + m) c') w' ∧ (Res.row a' (n + m) c' e inf.size (xs ++ news)).holds 0 w' ∧ w.grownBy w' (if c = 0 then none else sa.map (·.block)) ∧
      (∀ k, (Res.row a' (n + m) c' e inf.size (xs ++ news)).blk = some k → (if c = 0 then none else sa.map (·.block)) = some k ∨ (w.heap.size ≤ k ∧ k < w'.heap.size)) := by
  have hlen : (xs ++ news).length = (n + m) * inf.size := by rw [List.length_append, hrs.len, hr.len, Nat.add_mul]
  have hsmall : n + m ≤ 9223372036854775807 := by simp only [maxLen] at b1; omega
  by_cases hm : m = 0
  · -- nothing is added
    subst hm
    have hn : news = [] := List.eq_nil_of_length_eq_zero (by simpa using hr.len)
    subst hn
    refine ⟨sa, c, w, ?_, by simpa using hown, ⟨rfl, rfl, rfl, Nat.le_refl _, fun _ _ _ => rfl⟩, fun k hk => .inl hk⟩
    have hcap := hrs.cap
    cases sa with
    | none =>
      obtain ⟨rfl, rfl⟩ := hrs.none rfl
      cases xa <;> simp [Builtin.append_, run_underlying ht, sizeOf, typeInfo, hin, Builtin.lenOf, Builtin.firstCells, loadCells, loadCellsFrom]
    | some b => cases xa <;> simp [Builtin.append_, run_underlying ht, sizeOf, typeInfo, hin, Builtin.lenOf, Builtin.firstCells, hcap, storeCells, loadCells, loadCellsFrom]
  · cases xa with
    | none => exact absurd (hr.none rfl).1 hm
    | some ax =>
      have hnews : ∀ j u, news[j]? = some u → w.cell? (ax.add j) = some u := hr.cells
      have grown : ∀ (old : Nat), old < n + m → ∀ (row : Option Nat),
          (Res.row (some ⟨w.heap.size, 0, none⟩) (n + m) (grownCap w (n + m) old e) e inf.size (xs ++ news)).holds 0 (w.drew.alloc (.cells (xs.toArray ++ news.toArray ++ Builtin.zeroCells z.cells (grownCap w (n + m) old e - (n + m))) e)) ∧
          w.grownBy (w.drew.alloc (.cells (xs.toArray ++ news.toArray ++ Builtin.zeroCells z.cells (grownCap w (n + m) old e - (n + m))) e)) row := by
        intro old ho row
        have hge := grownCap_ge w (n + m) old e
        have hcm : grownCap w (n + m) old e ≤ maxLen := grownCap_le_maxLen w (n + m) old e b1
        refine ⟨.inr ⟨by omega, hlen, .inr ⟨w.heap.size, _, _, rfl, Nat.zero_le _, heap_alloc_new w.drew _, hge, hcm, ?_, ?_⟩⟩, ⟨rfl, rfl, rfl, by simp, fun k hk _ => heap_alloc_old w.drew _ k hk⟩⟩
        · simp only [Array.size_append, List.size_toArray, size_zeroCells, hzs, hrs.len, hr.len, ← Nat.add_mul]
          congr 1
          omega
        · simp only [Array.toList_append, List.append_assoc]
          rw [← List.append_assoc, ← hlen]
          exact List.take_left
      have fresh : ∀ (o : Obj) (nn cc : Nat) (yy : List Value) (k : Nat) (q : Option Nat), (Res.row (some ⟨w.heap.size, 0, none⟩) nn cc e inf.size yy).blk = some k → q = some k ∨ (w.heap.size ≤ k ∧ k < (w.drew.alloc o).heap.size) := by
        intro o nn cc yy k q hk
        simp [Res.blk] at hk
        obtain ⟨_, hk⟩ := hk
        subst hk
        exact .inr ⟨Nat.le_refl _, by simp⟩
      cases sa with
      | none =>
        obtain ⟨rfl, rfl⟩ := hrs.none rfl
        have hxs : xs = [] := List.eq_nil_of_length_eq_zero (by simpa using hrs.len)
        subst hxs
        have hrun := run_append_nil (P := P) w t ot e inf z ht hin hz ax m xc news hr.len hnews (by omega) (by omega) (by have hb := b2; simp only [Nat.zero_add] at hb; omega)
        have hgr := grown 0 (by omega) none
        simp only [Nat.zero_add, List.nil_append, Array.empty_append] at hgr ⊢
        exact ⟨_, _, _, hrun, hgr.1, hgr.2, fun k hk => fresh _ _ _ _ k _ hk⟩
      | some ab =>
        by_cases hroom : n + m ≤ c
        · have hc0 : c ≠ 0 := by omega
          rcases hown with ⟨h0, _, _⟩ | ⟨hcp, hown⟩
          · omega
          rcases hown.2 with ⟨he, _⟩ | ⟨g, cap, cur, he, hbg, hg, hnc, hcm, hcs, htake⟩
          · simp at he
          simp only [Value.slice.injEq, Option.some.injEq] at he
          obtain ⟨rfl, _, rfl⟩ := he
          have hfit : n * inf.size + news.length ≤ cur.size := by rw [hr.len, hcs, ← Nat.add_mul]; exact Nat.mul_le_mul_right _ hroom
          have hrun := run_append_room (P := P) w t ot e inf ht hin g n c cur hg ax m xc news hr.len hnews h1 hroom hfit
          refine ⟨_, _, _, hrun, .inr ⟨hcp, hlen, .inr ⟨g, c, _, rfl, hbg, setRow_heap w g cur _ e _ hg, hroom, hcm, ?_, ?_⟩⟩, ⟨rfl, rfl, rfl, by simp, fun k _ hk => setRow_other w g k _ (fun e => hk (by simp [e, hc0]))⟩, fun k hk => .inl (by simpa [Res.blk, hc0] using hk)⟩
          · simp only [List.size_toArray, List.length_append, List.length_take, List.length_drop, Array.length_toList]
            omega
          · rw [htake, ← hlen]
            exact List.take_left
        · have hrun := run_append_grow (P := P) w t ot e inf z ht hin hz ab n c xs hrs.len hrs.cells ax m xc news hr.len hnews (by omega) (by omega) (growslice_fits (by omega) b2)
          have hgr := grown c (by omega) (if c = 0 then none else Option.map (·.block) (some ab))
          exact ⟨_, _, _, hrun, hgr.1, hgr.2, fun k hk => fresh _ _ _ _ k _ hk⟩

/-- A store into an own row, at cell m. -/
theorem run_put_any {T : TypeId} {tsize : Nat} (hs : (sizeOf T).run P w = .ok tsize w) {sa : Option Addr} {m : Nat} {v : Value} {vs : List Value} (hv : v.cells = vs.toArray) (hl : vs.length = tsize) (h1 : ∀ u ∈ vs, u.oneCell' = true)
    {n c : Nat} {E : TypeId} {size : Nat} {xs : List Value} (hown : (Res.row sa n c E size xs).holds 0 w) (hf : m + vs.length ≤ n * size) (hne : vs ≠ []) :
    ∃ w', (Instr.storeAt T (.pointer (some ((adr sa).add m))) v).run P w = .ok () w' ∧ (Res.row sa n c E size (xs.take m ++ vs ++ xs.drop (m + vs.length))).holds 0 w' ∧ w.grownBy w' (if c = 0 then none else sa.map (·.block)) := by
  have hpos : 0 < vs.length := List.length_pos_iff.2 hne
  rcases hown with ⟨_, hn0, _⟩ | ⟨hcp, hown⟩
  · rw [hn0, Nat.zero_mul] at hf; omega
  have hc0 : c ≠ 0 := by omega
  rcases hown.2 with ⟨he, hn0⟩ | ⟨g, cap, cur, he, hbg, hg, hnc, hcm, hcs, htake⟩
  · rw [hn0, Nat.zero_mul] at hf; omega
  simp only [Value.slice.injEq] at he
  obtain ⟨rfl, _, rfl⟩ := he
  have hsz : n * size ≤ cur.size := by rw [hcs]; exact Nat.mul_le_mul_right _ hnc
  have hxl := hown.1
  have hst := run_storeCells_at P g m E vs 0 cur w hg (by omega) h1
  simp only [Nat.add_zero] at hst
  have hadd : (adr (some ⟨g, 0, none⟩)).add m = ⟨g, m, none⟩ := by
    show (⟨g, 0, none⟩ : Addr).add m = _
    rw [add_at]; simp
  have hxs : xs = cur.toList.take (n * size) := htake.symm
  have hrow : (w.setRow g (cur.toList.take m ++ vs ++ cur.toList.drop (m + vs.length)).toArray).ownsRow 0 E size (.slice (some ⟨g, 0, none⟩) n c) n (xs.take m ++ vs ++ xs.drop (m + vs.length)) := by
    refine ⟨by simp only [List.length_append, List.length_take, List.length_drop]; omega, .inr ⟨g, c, _, rfl, hbg, setRow_heap w g cur _ E _ hg, hnc, hcm, ?_, ?_⟩⟩
    · simp only [List.size_toArray, List.length_append, List.length_take, List.length_drop, Array.length_toList]
      omega
    · rw [hxs]
      apply List.ext_getElem?
      intro i
      simp only [List.getElem?_take, List.getElem?_append, List.length_append, List.length_take, List.getElem?_drop, Array.length_toList]
      have e1 : min m cur.size = m := by omega
      have e2 : min m (min (n * size) cur.size) = m := by omega
      rw [e1, e2]
      repeat' split
      all_goals first | rfl | (exfalso; omega) | (congr 1; omega)
  refine ⟨w.setRow g (cur.toList.take m ++ vs ++ cur.toList.drop (m + vs.length)).toArray, ?_, .inr ⟨hcp, hrow⟩, ⟨rfl, rfl, rfl, by simp, fun k _ hk => setRow_other w g k _ (fun e => hk (by simp [e, hc0]))⟩⟩
  simp [Instr.storeAt, Instr.sureAddr, storeVar, hs, hv, hl, hadd, hst, Result.andThen]
/-- A store into a box. -/
theorem run_store_box {T : TypeId} {tsize : Nat} (hs : (sizeOf T).run P w = .ok tsize w) {b off : Nat} {v : Value} {vs : List Value} (hv : v.cells = vs.toArray) (hl : vs.length = tsize) (h1 : ∀ u ∈ vs, u.oneCell' = true)
    {T' : TypeId} {cs : List Value} (hh : w.heap[b]? = some (.cells cs.toArray T' (0, 0))) (hf : off + vs.length ≤ cs.length) :
    ∃ w', (Instr.storeAt T (.pointer (some ⟨b, off, none⟩)) v).run P w = .ok () w' ∧ w'.heap[b]? = some (.cells (cs.take off ++ vs ++ cs.drop (off + vs.length)).toArray T' (0, 0)) ∧ w.grownBy w' (some b) := by
  have hst := run_storeCells_at P b off T' vs 0 cs.toArray w hh (by simpa using hf) h1
  simp only [Nat.add_zero] at hst
  refine ⟨w.setRow b (cs.take off ++ vs ++ cs.drop (off + vs.length)).toArray, ?_, setRow_heap w b cs.toArray _ T' _ hh, ⟨rfl, rfl, rfl, by simp, fun k _ hk => setRow_other w b k _ (fun e => hk (by rw [e]))⟩⟩
  simp [Instr.storeAt, Instr.sureAddr, storeVar, hs, hv, hl, hst, Result.andThen]
theorem run_fieldAt {T : TypeId} {f : Nat} {fs : Array Field} (hu : P.underlying T = some (.struct fs)) {fd : Field} (hf : fs[f]? = some fd)
    {z : Option Value} {size bytes : Nat} (hI : (P.info? fd.type).map (fun i => (i.zero, i.size, i.bytes)) = some (z, size, bytes)) (hs : size ≠ 0) (p : Addr) : (Instr.fieldAt T (.pointer (some p)) f).run P w = .ok (.pointer (some (p.add fd.offset))) w := by
  cases hin : P.info? fd.type with
  | none => rw [hin] at hI; simp at hI
  | some inf =>
    rw [hin] at hI
    simp at hI
    simp [Instr.fieldAt, run_underlying hu, hf, Instr.sureAddr, fieldPlace, sizeOf, typeInfo, hin, hI.2.1, hs, Result.andThen]
theorem run_idx {t : TypeId} {e : TypeId} (ht : P.underlying t = some (.slice e)) {z : Option Value} {size bytes : Nat} (hI : (P.info? e).map (fun i => (i.zero, i.size, i.bytes)) = some (z, size, bytes))
    (sa : Option Addr) (n c : Nat) (kd : IntKind) (J : Nat) (h0 : sa = .none → n = 0) (h1 : J < n) : (Instr.indexAt t (.slice sa n c) (.int kd (J : Int))).run P w = .ok (.pointer (some ((adr sa).add (J * size)))) w := by
  cases sa with
  | none => have := h0 rfl; omega
  | some b =>
    rw [run_indexAt_slice w t b n c kd J (by rw [elem_of ht]; exact ht), if_pos ⟨by omega, by omega⟩, elem_of ht, run_size hI]
    rfl
end
end Go.Proofs.Ytkichjejadkdgaa
