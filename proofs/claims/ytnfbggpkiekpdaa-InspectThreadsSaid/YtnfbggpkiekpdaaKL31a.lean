/- The law InspectThreads of layer 31: what any words say of threads: what is announced, guarded, in which epochs they are, their mails, and which are late: the program says what the document says; for every input the call returns true, and its arguments read afterwards as they did before. No condition beyond the row's own. -/
import Derived.Test.YtnfbggpkiekpdaaKR15zb
import Derived.Test.YtnfbggpkiekpdaaKR15s
namespace Go.Proofs.Ytnfbggpkiekpdaa
set_option linter.unusedVariables false
set_option linter.unusedSimpArgs false
set_option linter.unnecessarySimpa false
open Go.ChangeShapes Go.WideShapes Go.ChangeAt Go.RowKit Go.Joins Go.Deep
theorem cf31_s {c : DConf} (s : sCf c) : c.start.length ≤ 1152921504606846976 := by have := s.2.2.2.2.2.2.2.2.2.2.1; simp only [reachBytes] at this; omega
theorem okU31_s {l : List Int} (s : sL sU 8 l) : okU l ∧ l.length ≤ 1152921504606846976 := ⟨s.2, by have := s.1; simp only [reachBytes] at this; omega⟩
set_option maxRecDepth 100000 in
set_option maxHeartbeats 1000000 in
theorem inspectThreads_lifted (os : Os) (started : os.Started) (H : Type) (enc : TypeId × Value → H) :
    ReturnsInHanded {} Try.checked os 3 .any (Rows.inspectThreadsSpec.pre6 enc Try.prog Try.f3 Rows.inspectThreadsRow.domain false) (Rows.inspectThreadsSpec.post enc Try.prog Try.f3 false true false false) := by
  refine returnsInHanded_of_change_sized (C := Try.checked) own started (by kernel_rfl) Try.func3
    (ChangeSpec.witness6 (enc := enc) (C := Try.checked) false ⟨#[], #[.agg #[.int .i64 0, .int .i64 0, .int .i64 0, .int .i64 0, .int .i64 0, .int .i64 0, .int .i64 0, .int .i64 0, .int .i64 0, .int .i64 0, .slice none 0 0], .slice none 0 0], []⟩ 8 (by kernel_rfl) (by kernel_rfl) (by kernel_rfl) (by kernel_rfl)) ?_
  intro W base args ds gs before hval0 hW hcnd hwt _
  have hval : ∀ (j : Nat) t v, Try.f3.params[j]? = some t → args[j]? = some v → Value.okWide Try.prog W .any base t v := hval0
  have hW' := hW
  obtain ⟨p, q, hA0, hV, hps, hfz, hnd⟩ := hW
  have hA : DataW.TrodAll enc Try.prog W 0 (fun _ => true) true Try.f3.params.toList args.toList ds p := hA0
  clear hA0
  rw [Try.params3] at hA hval hwt
  obtain ⟨v0, vs0, d0, ds0, p0, q0, hargs, rfl, rfl, h0, r0⟩ := trodAll_cons hA
  obtain ⟨v1, vs1, d1, ds1, p1, q1, rfl, rfl, rfl, h1, r1⟩ := trodAll_cons r0
  obtain ⟨rfl, rfl, rfl⟩ := trodAll_nil r1
  obtain rfl : args = #[v0, v1] := by cases args; simp_all
  obtain ⟨rfl, rfl⟩ := trodVars_none hV
  obtain ⟨c, sc, bc, Vc⟩ := (o_Cf (enc := enc) (W := W)).arg (b := true) (by kernel_rfl) (fun h => by cases h) (hval 0 _ v0 rfl rfl) h0
  replace sc := sc (wt_of (us := _) (gs := _) hwt (j := 0) rfl rfl)
  obtain ⟨l, sl, bl, Vl⟩ := (o_u64s (enc := enc) (W := W)).arg (b := false) (by kernel_rfl) (fun _ _ => rfl) (hval 1 _ v1 rfl rfl) h1
  replace sl := sl (wt_of (us := _) (gs := _) hwt (j := 1) rfl rfl)
  clear hwt
  refine (Cd.law (inspectThreads_c c l (cf31_s sc) (okU31_s sl).1 (okU31_s sl).2) (.cons (val_frzA (Vc _ _) (fun _ h => h)) (.cons (val_frz (Vl _ _) (fun _ h => h)) .nil))).mono fun e W' ⟨he, hg⟩ => ?_
  subst he
  exact ⟨_, rfl, law_post laidOut (by decide +kernel) rfl Try.underlying4 rfl hW' ⟨rfl, rfl, rfl⟩ hg⟩
set_option maxRecDepth 100000 in
set_option maxHeartbeats 4000000 in
theorem inspectThreads_closed : joinedFacts Try.prog 3 Try.f3 Rows.inspectThreadsSpec Rows.inspectThreadsRow = true := by
  unfold joinedFacts
  repeat' with_reducible refine and_mk ?_ ?_
  all_goals first | with_reducible exact mayEnter_ok | (rw [liftsFinal_ok]; kernel_rfl) | (rw [make_ok]; kernel_rfl) | as_aux_lemma => kernel_rfl
/-- THE STATEMENT. -/
theorem inspectThreads_proved : Rows.InspectThreadsSaid :=
  OpenClaim.holds_of_wide 3 Try.f3 rfl rfl rfl rfl rfl rfl rfl ⟨rfl, rfl, rfl, rfl, rfl⟩ rfl rfl rfl rfl rfl (by as_aux_lemma => kernel_rfl) Try.func3 inspectThreads_closed
    (of_decide_eq_true (by as_aux_lemma => kernel_rfl)) (by as_aux_lemma => unfold Func.isWrapper; first | (rw [if_pos (by decide +kernel)]; kernel_rfl) | (rw [if_neg (by decide +kernel)]; exact ⟨rfl, rfl⟩))
    (fun os started H enc _ => inspectThreads_lifted os started H enc)
#print axioms inspectThreads_proved
end Go.Proofs.Ytnfbggpkiekpdaa
