/- Contracts over worlds, of functions that own nothing, as contracts over trees. No program in sight. -/
import Derived.Test.YtdneipibbdadcaaTScal
import Derived.Test.YtdneipibbdadcaaTWalk
import Derived.Below
namespace Go.Proofs.Ytdneipibbdadcaa
set_option linter.unusedVariables false
set_option linter.unusedSimpArgs false
set_option linter.unnecessarySimpa false
open Go.RowKit
inductive Rv : AV → Value → Prop
  | v {x : Value} (h : x.oneCell' = true) : Rv (.t (.v x)) x
  | agg {l : List AV} {us : List Value} (h1 : l.length = us.length) (ho : ∀ u ∈ us, u.oneCell' = true) (h : ∀ (j : Nat) x u, l[j]? = some x → us[j]? = some u → Rv x u) : Rv (.agg l) (.agg us.toArray)
  | tup {l : List AV} {us : List Value} (h1 : l.length = us.length) (h : ∀ (j : Nat) x u, l[j]? = some x → us[j]? = some u → Rv x u) : Rv (.tup l) (.tuple us.toArray)
inductive RvL : List AV → List Value → Prop
  | nil : RvL [] []
  | cons {x : AV} {u : Value} {l : List AV} {us : List Value} (h : Rv x u) (k : RvL l us) : RvL (x :: l) (u :: us)
theorem RvL.get {l : List AV} {us : List Value} (h : RvL l us) : l.length = us.length ∧ ∀ (j : Nat) x u, l[j]? = some x → us[j]? = some u → Rv x u := by
  induction h with
  | nil => exact ⟨rfl, fun j x u h => by simp at h⟩
  | @cons x u l us h k ih =>
    refine ⟨by simp [ih.1], fun j a b ha hb => ?_⟩
    cases j with
    | zero => simp at ha hb; subst ha hb; exact h
    | succ j => exact ih.2 j a b (by simpa using ha) (by simpa using hb)
theorem Rv.aggL {l : List AV} {us : List Value} (h : RvL l us) (ho : ∀ u ∈ us, u.oneCell' = true) : Rv (.agg l) (.agg us.toArray) := .agg h.get.1 ho h.get.2
theorem Rv.tupL {l : List AV} {us : List Value} (h : RvL l us) : Rv (.tup l) (.tuple us.toArray) := .tup h.get.1 h.get.2
theorem Rv.val {Kn : Nat → Nat → Prop} {ρ : Rho} {w : World} {Z Y : Nat → Prop} {x : AV} {v : Value} (h : Rv x v) : Val Kn ρ w Z Y x v := by
  induction h with
  | v h => exact .t (.v h)
  | agg h1 ho _ ih => exact .agg h1 ho ih
  | tup h1 _ ih => exact .tup h1 ih
theorem Cd.of {P : Program} {f : FuncId} {args : List AV} {vs : List Value} {v : Value} {r : AV} (h : ∀ W, Calls P f vs.toArray W fun e w' => e = .returned v ∧ Below W.heap.size W w') (ha : args.map cvA = vs.map some) (hr : Rv r v) : Cd P f args r [] := by
  intro e us hH hrep _ hav
  have hus : us = vs := by
    have hl : us.length = vs.length := by rw [← hav.len, ← List.length_map (f := cvA), ha, List.length_map]
    apply List.ext_getElem hl
    intro j h1 h2
    have h3 : j < args.length := by rw [hav.len]; exact h1
    have h4 : cvA args[j] = some vs[j] := by
      have := congrArg (fun l => l[j]?) ha
      simpa [List.getElem?_eq_getElem h3, List.getElem?_eq_getElem h2] using this
    exact cvA_open h4 (hav.at_ j _ _ (List.getElem?_eq_getElem h3) (List.getElem?_eq_getElem h1))
  subst hus
  refine (h e.W).mono ?_
  rintro en w' ⟨rfl, hb⟩
  refine ⟨v, r, [], e.ρ, e.Z, e.Y, rfl, ⟨rfl, rfl⟩, ⟨⟨fun i o hi => by simp at hi, fun i j o o' b hi => by simp at hi, fun i o b hi => by simp at hi, hrep.zy, fun b hb' => Nat.lt_of_lt_of_le (hrep.ylt b hb') hb.size⟩, fun i o b hi => by simp at hi, fun b hb' => .inl hb', fun b hb' => hb', fun b hb' => hb', fun i k hk => by obtain ⟨o, ho, _⟩ := hk; rw [hH] at ho; simp at ho, hb.os, hb.tape, hb.output, hb.size, fun b hd => ?_⟩, hr.val⟩
  rcases Nat.lt_or_ge b e.W.heap.size with c | c
  · exact hb.block b c
  · exact absurd (e.big b c) hd
end Go.Proofs.Ytdneipibbdadcaa
