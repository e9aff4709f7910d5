/- Objects that are kept, by a list of their numbers. No program in sight. -/
import Derived.Test.YtdneipibbdadcaaTKeep
namespace Go.Proofs.Ytdneipibbdadcaa
set_option linter.unusedVariables false
set_option linter.unusedSimpArgs false
set_option linter.unnecessarySimpa false
open Go.RowKit
def idxK : List Nat → Nat → Option Nat
  | [], _ => none
  | a :: K, i => bif Nat.beq a i then some 0 else (idxK K i).map (· + 1)
theorem idxK_some : ∀ {K : List Nat} {i j : Nat}, idxK K i = some j → K[j]? = some i
  | [], i, j, h => by cases h
  | a :: K, i, j, h => by
    unfold idxK at h
    cases hb : Nat.beq a i with
    | true => rw [hb] at h; cases h; rw [Nat.eq_of_beq_eq_true hb]; rfl
    | false =>
      rw [hb] at h
      simp only [cond_false, Option.map_eq_some_iff] at h
      obtain ⟨k, hk, rfl⟩ := h
      exact (List.getElem?_cons_succ).trans (idxK_some (K := K) hk)
section
variable {P : Program} {Q : QS} {n : Fr} {T : Nat → AV} {heap : List Ob} {d : Nat}
theorem Wk.cut3 {T' : Nat → AV} {heap' : List Ob} (K : List Nat) (hn : K.Nodup) (hlt : K.all (fun i => Nat.blt i heap.length) = true) (hb : (List.range n.h).all (fun i => K[i]? == some i) = true) (hh : (K.map fun i => upP (idxK K) (heap.getD i .hole)) = heap') (hT : Fk (idxK K) T T') : Wk n T heap T' heap' := by
  subst hh
  rintro e a w ⟨ρ, Z, Y, hR⟩
  have hlen : (K.map fun i => upP (idxK K) (heap.getD i .hole)).length = K.length := by simp
  have hK : ∀ (j : Nat), j < K.length → ∃ i, K[j]? = some i ∧ i < heap.length ∧ K.getD j 0 = i := fun j hj => by
    refine ⟨K[j], List.getElem?_eq_getElem hj, ?_, ?_⟩
    · have := List.all_eq_true.1 hlt K[j] (List.getElem_mem hj)
      exact Nat.le_of_ble_eq_true this
    · rw [List.getD_eq_getElem?_getD, List.getElem?_eq_getElem hj]; rfl
  obtain ⟨ρ', k1, k2⟩ := Ok.sel2 (heap := heap) hR.ok (heap' := K.map fun i => upP (idxK K) (heap.getD i .hole)) (fun j => K.getD j 0) (idxK K) (fun i j hi hj h => by
    rw [hlen] at hi hj
    obtain ⟨a1, ha, _, e1⟩ := hK i hi
    obtain ⟨b1, hb1, _, e2⟩ := hK j hj
    have h : K.getD i 0 = K.getD j 0 := h
    rw [e1, e2] at h
    subst h
    exact (List.getElem?_inj hi hn).1 (ha.trans hb1.symm)) (fun j o' hj => by
    rw [List.getElem?_map] at hj
    cases hx : K[j]? with
    | none => rw [hx] at hj; cases hj
    | some i =>
      rw [hx] at hj; cases hj
      obtain ⟨i', h1, h2, h3⟩ := hK j (get_lt hx)
      rw [hx] at h1; cases h1
      exact ⟨heap.getD i .hole, by rw [h3, List.getD_eq_getElem?_getD, List.getElem?_eq_getElem h2]; rfl, rfl⟩) (fun i j hi hj => by
    have h1 := idxK_some hj
    obtain ⟨i', h2, _, h3⟩ := hK j (get_lt h1)
    rw [h1] at h2; cases h2
    exact ⟨h3, by rw [hlen]; exact get_lt h1⟩) (fun i h1 h2 => by
    have h3 : e.H.length ≤ n.h := hR.hl
    have h4 := List.all_eq_true.1 hb i (List.mem_range.2 (by omega))
    have h5 : K[i]? = some i := by simpa using h4
    obtain ⟨i', h6, _, h7⟩ := hK i (get_lt h5)
    rw [h5] at h6; cases h6
    exact ⟨by rw [hlen]; exact get_lt h5, h7⟩)
  refine ⟨ρ', Z, Y, k1, hR.defers, hR.n, hR.hl, fun t v ht => ?_⟩
  rcases hT t with h | h
  · show Val _ _ _ _ _ (T' t) _
    rw [h]; exact .any _
  · show Val _ _ _ _ _ (T' t) _
    rw [h]; exact k2 _ _ (hR.at_ t v ht)
end
end Go.Proofs.Ytdneipibbdadcaa
