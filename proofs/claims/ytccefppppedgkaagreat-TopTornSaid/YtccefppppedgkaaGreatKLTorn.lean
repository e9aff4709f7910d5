/- The law TopTorn: whatever a script does, each record that a thread has read whole is one that was the root's: for every input the call returns true, and its arguments read afterwards as they did before. No condition beyond the row's own. -/
import Derived.Test.YtccefppppedgkaaGreatKHya
import Derived.Test.YtccefppppedgkaaGreatKHv
namespace Go.Proofs.YtccefppppedgkaaGreat
set_option linter.unusedVariables false
set_option linter.unusedSimpArgs false
set_option linter.unnecessarySimpa false
open Go.ChangeShapes Go.WideShapes Go.ChangeAt Go.RowKit Go.Joins Go.Deep
theorem AdP {c : AB} (s : sCf c) : c.start.length ≤ 1152921504606846976 := by have := s.2.2.2.2.2.2.2.2.2.2.1; simp only [reachBytes] at this; omega
set_option maxRecDepth 100000 in
set_option maxHeartbeats 1000000 in
theorem UJ (os : Os) (started : os.Started) (H : Type) (enc : TypeId × Value → H) :
    ReturnsInHanded {} Tryz.checked os 4 .any (Rows.topTornSpec.pre6 enc Tryz.prog Tryz.f4 Rows.topTornRow.domain false) (Rows.topTornSpec.post enc Tryz.prog Tryz.f4 false true false false) := by
  refine returnsInHanded_of_change_sized (C := Tryz.checked) own started (by kernel_rfl) Tryz.func4
    (ChangeSpec.witness6 (enc := enc) (C := Tryz.checked) false ⟨#[], #[.agg #[.int .i64 0, .int .i64 0, .int .i64 0, .int .i64 0, .int .i64 0, .int .i64 0, .int .i64 0, .int .i64 0, .int .i64 0, .int .i64 0, .slice none 0 0], .slice none 0 0], []⟩ 8 (by kernel_rfl) (by kernel_rfl) (by kernel_rfl) (by kernel_rfl)) ?_
  intro W base args ds gs before hval0 hW hcnd hwt _
  have hval : ∀ (j : Nat) t v, Tryz.f4.params[j]? = some t → args[j]? = some v → Value.okWide Tryz.prog W .any base t v := hval0
  have hW' := hW
  obtain ⟨p, q, hA0, hV, hps, hfz, hnd⟩ := hW
  have hA : DataW.TrodAll enc Tryz.prog W 0 (fun _ => true) true Tryz.f4.params.toList args.toList ds p := hA0
  clear hA0
  rw [Tryz.params4] at hA hval hwt
  obtain ⟨v0, vs0, d0, ds0, p0, q0, hargs, rfl, rfl, h0, r0⟩ := trodAll_cons hA
  obtain ⟨v1, vs1, d1, ds1, p1, q1, rfl, rfl, rfl, h1, r1⟩ := trodAll_cons r0
  obtain ⟨rfl, rfl, rfl⟩ := trodAll_nil r1
  obtain rfl : args = #[v0, v1] := by cases args; simp_all
  obtain ⟨rfl, rfl⟩ := trodVars_none hV
  obtain ⟨c, sc, bc, Vc⟩ := (AtN (enc := enc) (W := W)).arg (b := true) (by kernel_rfl) (fun h => by cases h) (hval 0 _ v0 rfl rfl) h0
  replace sc := sc (QJ (us := _) (gs := _) hwt (j := 0) rfl rfl)
  obtain ⟨l, sl, bl, Vl⟩ := (AgZ (enc := enc) (W := W)).arg (b := false) (by kernel_rfl) (fun _ _ => rfl) (hval 1 _ v1 rfl rfl) h1
  replace sl := sl (QJ (us := _) (gs := _) hwt (j := 1) rfl rfl)
  clear hwt
  refine (Cd.law (AbW c l (AdP sc) (fun e he => m9_ (sl.2 e he))) (.cons (UL (Vc _ _) (fun _ h => h)) (.cons (Vl _ _) .nil))).mono fun e W' ⟨he, hg⟩ => ?_
  subst he
  exact ⟨_, rfl, MM XZ (by decide +kernel) rfl Tryz.underlying4 rfl hW' ⟨rfl, rfl, rfl⟩ hg⟩
set_option maxRecDepth 100000 in
set_option maxHeartbeats 4000000 in
theorem UI : joinedFacts Tryz.prog 4 Tryz.f4 Rows.topTornSpec Rows.topTornRow = true := by
  unfold joinedFacts
  repeat' with_reducible refine k_ ?_ ?_
  all_goals first | with_reducible exact JW | (rw [HE]; kernel_rfl) | (rw [YD]; kernel_rfl) | as_aux_lemma => kernel_rfl
/-- THE STATEMENT. -/
theorem topTorn_proved : Rows.TopTornSaid :=
  OpenClaim.holds_of_wide 4 Tryz.f4 rfl rfl rfl rfl rfl rfl rfl ⟨rfl, rfl, rfl, rfl, rfl⟩ rfl rfl rfl rfl rfl (by as_aux_lemma => kernel_rfl) Tryz.func4 UI
    (of_decide_eq_true (by as_aux_lemma => kernel_rfl)) (by as_aux_lemma => unfold Func.isWrapper; first | (rw [if_pos (by decide +kernel)]; kernel_rfl) | (rw [if_neg (by decide +kernel)]; exact ⟨rfl, rfl⟩))
    (fun os started H enc _ => UJ os started H enc)
#print axioms topTorn_proved
end Go.Proofs.YtccefppppedgkaaGreat
