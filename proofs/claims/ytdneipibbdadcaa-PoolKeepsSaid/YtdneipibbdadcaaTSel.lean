/- Objects that are kept, by a list of their numbers. No program in sight. -/
import Derived.Test.YtdneipibbdadcaaTKeep
import Derived.Test.YtdneipibbdadcaaTMore
namespace Go.Proofs.Ytdneipibbdadcaa
set_option linter.unusedVariables false
set_option linter.unusedSimpArgs false
set_option linter.unnecessarySimpa false
open Go.RowKit
def idxK : List Nat → Nat → Option Nat
  | [], _ => none
  | a :: K, i => bif Nat.beq a i then some 0 else (idxK K i).map (· + 1)
theorem idxK_some : ∀ {K : List Nat} {i j : Nat}, idxK K i = some j → K[j]? = some i
  | [], i, j, h => by cases h
  | a :: K, i, j, h => by
    unfold idxK at h
    cases hb : Nat.beq a i with
    | true => rw [hb] at h; cases h; rw [Nat.eq_of_beq_eq_true hb]; rfl
    | false =>
      rw [hb] at h
      simp only [cond_false, Option.map_eq_some_iff] at h
      obtain ⟨k, hk, rfl⟩ := h
      exact (List.getElem?_cons_succ).trans (idxK_some (K := K) hk)
section
variable {P : Program} {Q : QS} {n : Fr} {T : Nat → AV} {heap : List Ob} {d : Nat}
theorem Wk.cut3 {T' : Nat → AV} {heap' : List Ob} (K : List Nat) (hn : K.Nodup) (hlt : K.all (fun i => Nat.blt i heap.length) = true) (hb : (List.range n.h).all (fun i => K[i]? == some i) = true) (hh : (K.map fun i => upP (idxK K) (heap.getD i .hole)) = heap') (hT : Fk (idxK K) T T') : Wk n T heap T' heap' := by
  subst hh
  rintro e a w ⟨ρ, Z, Y, hR⟩
  have hlen : (K.map fun i => upP (idxK K) (heap.getD i .hole)).length = K.length := by simp
  have hK : ∀ (j : Nat), j < K.length → ∃ i, K[j]? = some i ∧ i < heap.length ∧ K.getD j 0 = i := fun j hj => by
    refine ⟨K[j], List.getElem?_eq_getElem hj, ?_, ?_⟩
    · have := List.all_eq_true.1 hlt K[j] (List.getElem_mem hj)
      exact Nat.le_of_ble_eq_true this
    · rw [List.getD_eq_getElem?_getD, List.getElem?_eq_getElem hj]; rfl
  obtain ⟨ρ', k1, k2⟩ := Ok.sel2 (heap := heap) hR.ok (heap' := K.map fun i => upP (idxK K) (heap.getD i .hole)) (fun j => K.getD j 0) (idxK K) (fun i j hi hj h => by
    rw [hlen] at hi hj
    obtain ⟨a1, ha, _, e1⟩ := hK i hi
    obtain ⟨b1, hb1, _, e2⟩ := hK j hj
    have h : K.getD i 0 = K.getD j 0 := h
    rw [e1, e2] at h
    subst h
    exact (List.getElem?_inj hi hn).1 (ha.trans hb1.symm)) (fun j o' hj => by
    rw [List.getElem?_map] at hj
    cases hx : K[j]? with
    | none => rw [hx] at hj; cases hj
    | some i =>
      rw [hx] at hj; cases hj
      obtain ⟨i', h1, h2, h3⟩ := hK j (get_lt hx)
      rw [hx] at h1; cases h1
      exact ⟨heap.getD i .hole, by rw [h3, List.getD_eq_getElem?_getD, List.getElem?_eq_getElem h2]; rfl, rfl⟩) (fun i j hi hj => by
    have h1 := idxK_some hj
    obtain ⟨i', h2, _, h3⟩ := hK j (get_lt h1)
    rw [h1] at h2; cases h2
    exact ⟨h3, by rw [hlen]; exact get_lt h1⟩) (fun i h1 h2 => by
    have h3 : e.H.length ≤ n.h := hR.hl
    have h4 := List.all_eq_true.1 hb i (List.mem_range.2 (by omega))
    have h5 : K[i]? = some i := by simpa using h4
    obtain ⟨i', h6, _, h7⟩ := hK i (get_lt h5)
    rw [h5] at h6; cases h6
    exact ⟨by rw [hlen]; exact get_lt h5, h7⟩)
  refine ⟨ρ', Z, Y, k1, hR.defers, hR.n, hR.hl, fun t v ht => ?_⟩
  rcases hT t with h | h
  · show Val _ _ _ _ _ (T' t) _
    rw [h]; exact .any _
  · show Val _ _ _ _ _ (T' t) _
    rw [h]; exact k2 _ _ (hR.at_ t v ht)
end
theorem Wk.freezeB {n : Fr} {T : Nat → AV} {heap : List Ob} (i : Nat) {k : Nat} {E : TypeId} {s : Nat} {els : List (List Tr)} (hi : heap[i]? = some (.row k E s els)) (j : Nat) {t : TypeId} {cs cs' : List AV} (hj : heap[j]? = some (.box t cs)) (hr : FzL i k els cs cs') {heap' : List Ob} (hh : (heap.set i (.gone k)).set j (.box t cs') = heap') : Wk n T heap T heap' := by
  subst hh
  rintro e a w ⟨ρ, Z, Y, hR⟩
  have hrep := hR.ok.rep
  obtain ⟨h1, xs, h2, h3, h4⟩ := hrep.row hi
  have hz : ∀ b, Z b → (Z b ∨ (Ob.row k E s els).blk ρ i = some b) ∧ w.heap[b]? = w.heap[b]? := fun b hb => ⟨.inl hb, rfl⟩
  have hy : ∀ b, Y b → (Y b ∨ (Ob.row k E s els).blk ρ i = some b) ∧ w.heap[b]? = w.heap[b]? := fun b hb => ⟨.inl hb, rfl⟩
  have hm : ∀ x v, Val (Kn heap) ρ w Z Y x v → Val (Kn (heap.set i (.gone k))) ρ w (fun b => Z b ∨ (Ob.row k E s els).blk ρ i = some b) (fun b => Y b ∨ (Ob.row k E s els).blk ρ i = some b) x v := fun x v hv =>
    hv.mono (fun j q hj => ⟨hj.set hi (Nat.le_refl _), rfl⟩) hz hy
  have hok : Ok e (heap.set i (.gone k)) w ρ (fun b => Z b ∨ (Ob.row k E s els).blk ρ i = some b) (fun b => Y b ∨ (Ob.row k E s els).blk ρ i = some b) := by
    refine hR.ok.mono (hrep.freeze hi) (fun j q hj => ⟨hj.set hi (Nat.le_refl _), rfl⟩) ⟨rfl, rfl, rfl⟩ (Nat.le_refl _) (fun j p b hj hp => ?_) (fun b hb => .inl hb) (fun b hb => .inl hb) (fun b hb => hb.elim .inl fun hb => .inr (hR.ok.dom i _ b hi hb)) (fun _ _ _ => rfl)
    rw [List.getElem?_set] at hj
    split at hj
    · split at hj <;> cases hj
      cases hp
    · exact hR.ok.dom j p b hj hp
  have hblk : xs ≠ [] → Z (adr (ρ i k).a).block ∨ (Ob.row k E s els).blk ρ i = some (adr (ρ i k).a).block := fun hne => .inr (by
    rcases h3 with ⟨_, _, e⟩ | ⟨hc, hh⟩
    · exact absurd e hne
    · simp only [Ob.blk]
      rw [if_neg (by omega)]
      cases ha : (ρ i k).a with
      | some b => rfl
      | none =>
        rw [ha] at hh
        rcases hh.2 with ⟨e, _⟩ | ⟨g, cap, cur, e, _⟩
        · simp only [Value.slice.injEq] at e; omega
        · simp at e)
  have hfz : ∀ m, m ≤ els.length → Frz w (fun b => Z b ∨ (Ob.row k E s els).blk ρ i = some b) (.lst (els.take m)) (.slice (ρ i k).a m (ρ i k).c) := fun m hm =>
    frz_take h4 (h2.mono fun _ _ h => Frz.mono hz h) hblk hm
  have hgz : ∀ (off m : Nat) (a : Option Addr) (c : Nat), m ≤ c → c ≤ maxLen → (a = .none → m = 0 ∧ c = 0) → (m ≠ 0 → a = some ((adr (ρ i k).a).add (off * (ρ i k).s))) → off + m ≤ els.length → Frz w (fun b => Z b ∨ (Ob.row k E s els).blk ρ i = some b) (.lst ((els.drop off).take m)) (.slice a m c) := by
    intro off m a c hn' hmx h0 ha hle
    have e : ((els.drop off).take m).length = m := by rw [List.length_take, List.length_drop]; omega
    have hm0 : ∀ {q : List Value}, q = (xs.drop (off * s)).take (m * s) → q ≠ [] → m ≠ 0 := fun e1 hne e2 => hne (by rw [e1, e2]; simp)
    have hE := (((h2.mono fun _ _ h => Frz.mono hz h).drop off).take m)
    refine .shut (xs := (xs.drop (off * s)).take (m * s)) (size := s) e ⟨hn', hmx, h0, ?_, fun j u hj => ?_⟩ (fun hne => ?_) hE
    · have := hE.len
      rw [e] at this; exact this
    · have hne := hm0 rfl (fun e => by rw [e] at hj; simp at hj)
      rw [List.getElem?_take] at hj
      split at hj
      · rw [ha hne, List.getElem?_drop] at *
        show w.cell? (Addr.add ((adr (ρ i k).a).add _) j) = _
        rw [add_add, h1]
        exact h4.cells _ u hj
      · cases hj
    · have hne' := hm0 rfl hne
      rw [ha hne']
      show Z (Addr.add _ _).block ∨ _ = some (Addr.add _ _).block
      rw [add_block]
      exact hblk (fun e => by rw [e] at hne; simp at hne)
  have hij : i ≠ j := fun e => by subst e; rw [hi] at hj; cases hj
  have hj1 : (heap.set i (.gone k))[j]? = some (.box t cs) := by rw [List.getElem?_set, if_neg hij]; exact hj
  have h5 := hR.move hok hm
  obtain ⟨b, us, q1, q2, q3, q4⟩ := h5.ok.rep.obs j _ hj1
  obtain ⟨r1, r2⟩ := hr.get
  have hm2 : ∀ x v, Val (Kn (heap.set i (.gone k))) ρ w (fun b => Z b ∨ (Ob.row k E s els).blk ρ i = some b) (fun b => Y b ∨ (Ob.row k E s els).blk ρ i = some b) x v → Val (Kn ((heap.set i (.gone k)).set j (.box t cs'))) ρ w (fun b => Z b ∨ (Ob.row k E s els).blk ρ i = some b) (fun b => Y b ∨ (Ob.row k E s els).blk ρ i = some b) x v := fun x v hv =>
    hv.mono (fun j' q hj' => ⟨hj'.set hj1 (by exact Nat.le_refl _), rfl⟩) (fun b hb => ⟨hb, rfl⟩) (fun b hb => ⟨hb, rfl⟩)
  refine ⟨ρ, _, _, h5.ok.turn hj1 (Nat.le_refl _) (fun _ _ _ => rfl) ⟨rfl, rfl, rfl⟩ (Nat.le_refl _) (fun _ _ _ => rfl) ⟨b, us, q1, q2, ⟨by rw [← r1]; exact q3.len, fun q x u hq hu => ?_⟩, q4⟩ (fun b' hb' => .inl hb'), h5.defers, h5.n, h5.hl, fun t v ht => hm2 _ _ (h5.at_ t v ht)⟩
  have hlt := get_lt hq
  rw [← r1] at hlt
  exact hm2 _ _ (FzR.val hfz hgz (r2 q _ x (List.getElem?_eq_getElem hlt) hq) (q3.at_ q _ u (List.getElem?_eq_getElem hlt) hu))
end Go.Proofs.Ytdneipibbdadcaa
