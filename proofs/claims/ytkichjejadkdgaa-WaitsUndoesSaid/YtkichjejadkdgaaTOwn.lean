/- A slice without room that stands in a box, as an own row. No program in sight. -/
import Derived.Test.YtkichjejadkdgaaTFin
namespace Go.Proofs.Ytkichjejadkdgaa
set_option linter.unusedVariables false
set_option linter.unusedSimpArgs false
set_option linter.unnecessarySimpa false
open Go.RowKit
section
variable {P : Program} {n : Fr} {T : Nat → AV} {heap : List Ob}
theorem Wk.ownB (i j : Nat) {t : TypeId} {cs : List AV} (hi : heap[i]? = some (.box t cs)) (hj : cs[j]? = some .nl) (E : TypeId) (size : Nat) {heap1 heap' : List Ob} {N : Nat} (hat : AtL heap N [.row 0 E size []] heap1) (hh : heap1.set i (.box t (cs.set j (.sl N 0 0))) = heap') : Wk n T heap T heap' := by
  subst hh
  rintro en a w ⟨ρ, Z, Y, hR⟩
  obtain ⟨b, us, q1, q2, q3, q4⟩ := hR.ok.rep.obs i _ hi
  have hl := get_lt hj
  rw [q3.len] at hl
  have hv := q3.at_ j .nl _ hj (List.getElem?_eq_getElem hl)
  obtain ⟨sa, hsa⟩ : ∃ sa, us[j] = .slice sa 0 0 := by
    generalize us[j] = v at hv
    cases hv with
    | nl sa => exact ⟨sa, rfl⟩
  obtain ⟨ρ', k1, k2, k3, k4⟩ := hR.ok.push1 (o := .row 0 E size []) hat (w' := w) (pl := ⟨sa, 0, size⟩) ⟨rfl, rfl, rfl⟩ (Nat.le_refl _) (fun _ _ => rfl)
    (fun ρ' hN hρ => ⟨by rw [hN], [], .nil, by rw [hN]; exact .inl ⟨rfl, rfl, rfl⟩⟩) (fun b _ hb => by simp [Ob.blk] at hb)
  have hi1 : heap1[i]? = some (.box t cs) := (hat.old hi (by simp [Ob.lim])).1
  have hp := k2 _ _ (Val.ptr (Kn := Kn heap) (ρ := ρ) (w := w) (Z := Z) (Y := Y) (i := i) (off := 0) (b := b) ⟨_, hi, by simp [Ob.lim]⟩ q1)
  have ha : (ρ' i 0).a = some ⟨b, 0, none⟩ := by
    cases hp with
    | ptr _ ha => exact ha
  have hm : ∀ x v, Val (Kn heap1) ρ' w Z Y x v → Val (Kn (heap1.set i (.box t (cs.set j (.sl N 0 0))))) ρ' w Z Y x v := fun x v hv =>
    hv.mono (fun j k hj => ⟨hj.set hi1 (by exact Nat.le_refl _), rfl⟩) (fun b hb => ⟨hb, rfl⟩) (fun b hb => ⟨hb, rfl⟩)
  refine ⟨ρ', Z, Y, k1.turn hi1 (Nat.le_refl _) (fun _ _ _ => rfl) ⟨rfl, rfl, rfl⟩ (Nat.le_refl _) (fun _ _ _ => rfl) ⟨b, us, ha, q2, ⟨by rw [List.length_set]; exact q3.len, fun q x u hq hu => ?_⟩, q4⟩ (fun b' hb' => .inl hb'), hR.defers, hR.n, hR.hl, fun t v ht => hm _ _ (k2 _ _ (hR.at_ t v ht))⟩
  rw [List.getElem?_set] at hq
  by_cases e : j = q
  · subst e
    rw [if_pos rfl, if_pos (get_lt hj)] at hq
    cases hq
    rw [List.getElem?_eq_getElem hl, hsa] at hu
    cases hu
    refine hm _ _ ?_
    have := Val.sl (Kn := Kn heap1) (ρ := ρ') (w := w) (Z := Z) (Y := Y) (i := N) (k := 0) (n := 0) ⟨_, hat.one, Nat.le_refl _⟩ (Nat.zero_le _) (by rw [k3]; intro _; rfl)
    rw [k3] at this
    exact this
  · rw [if_neg e] at hq
    exact hm _ _ (k2 _ _ (q3.at_ q x u hq hu))
end
end Go.Proofs.Ytkichjejadkdgaa
