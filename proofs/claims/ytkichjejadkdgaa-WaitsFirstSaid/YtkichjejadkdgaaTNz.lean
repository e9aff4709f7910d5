/- A slot's nil slices are read as rows of no element. -/
import Derived.Test.YtkichjejadkdgaaTFin
namespace Go.Proofs.Ytkichjejadkdgaa
set_option linter.unusedVariables false
set_option linter.unusedSimpArgs false
set_option linter.unnecessarySimpa false
open Go.RowKit
inductive NzR : AV → AV → Prop
  | nlt : NzR .nl (.t (.lst []))
  | same (x : AV) : NzR x x
  | agg {l l' : List AV} (h1 : l.length = l'.length) (h : ∀ (j : Nat) x y, l[j]? = some x → l'[j]? = some y → NzR x y) : NzR (.agg l) (.agg l')
inductive NzL : List AV → List AV → Prop
  | nil : NzL [] []
  | cons {x y : AV} {l l' : List AV} (h : NzR x y) (g : NzL l l') : NzL (x :: l) (y :: l')
theorem NzL.get {l l' : List AV} (h : NzL l l') : l.length = l'.length ∧ ∀ (j : Nat) x y, l[j]? = some x → l'[j]? = some y → NzR x y := by
  induction h with
  | nil => exact ⟨rfl, fun j x y h => by simp at h⟩
  | cons h k ih =>
    refine ⟨by simp [ih.1], fun j x y hj hy => ?_⟩
    cases j with
    | zero => simp at hj hy; subst hj hy; exact h
    | succ j => exact ih.2 j x y (by simpa using hj) (by simpa using hy)
theorem NzR.aggL {l l' : List AV} (h : NzL l l') : NzR (.agg l) (.agg l') := .agg h.get.1 h.get.2
theorem NzR.val {Kn : Nat → Nat → Prop} {ρ : Rho} {w : World} {Z Y : Nat → Prop} {x y : AV} (h : NzR x y) : ∀ {v : Value}, Val Kn ρ w Z Y x v → Val Kn ρ w Z Y y v := by
  induction h with
  | nlt =>
    intro v hv
    cases hv with
    | nl sa => exact .t (.lst (size := 0) (xs := []) ⟨Nat.le_refl _, Nat.zero_le _, fun _ => ⟨rfl, rfl⟩, by simp, fun j u hj => by simp at hj⟩ (fun h => absurd rfl h) rfl (fun _ h => by simp at h) (fun i cs j x u hi => by simp at hi))
  | same x => intro v hv; exact hv
  | agg h1 h ih =>
    intro v hv
    cases hv with
    | agg e1 ho hu =>
      refine .agg (by rw [← h1]; exact e1) ho (fun j y u hj hu' => ?_)
      have hlt := get_lt hj
      rw [← h1] at hlt
      exact ih j _ y (List.getElem?_eq_getElem hlt) hj (hu j _ u (List.getElem?_eq_getElem hlt) hu')
theorem Wk.nz {n : Fr} {T : Nat → AV} {heap : List Ob} (d : Nat) {x y : AV} (hd : evA n T (.tmp d) = x) (hr : NzR x y) : Wk n T heap (pu T d y) heap := by
  subst hd
  rintro e a w ⟨ρ, Z, Y, hR⟩
  have hv := hR.eval (.tmp d)
  have h6 := NzR.val hr hv
  refine ⟨ρ, _, _, hR.ok, hR.defers, hR.n, hR.hl, fun t v ht => ?_⟩
  by_cases c : t = d
  · subst c
    show Val _ _ _ _ _ (pu T t y t) v
    simp only [pu, Nat.beq_refl, cond_true]
    simp only [Act.eval, Array.getD_eq_getD_getElem?, ht, Option.getD_some] at h6
    exact h6
  · show Val _ _ _ _ _ (pu T d y t) v
    have h1 : Nat.beq t d = false := by
      cases hb : Nat.beq t d
      · rfl
      · exact absurd (Nat.eq_of_beq_eq_true hb) c
    simp only [pu, h1, cond_false]
    exact hR.at_ t v ht
end Go.Proofs.Ytkichjejadkdgaa
