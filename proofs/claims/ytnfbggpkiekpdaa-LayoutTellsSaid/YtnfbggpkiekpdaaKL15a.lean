/- The law LayoutTells of layer 15: where the words of any thread, and of any node, lie, of any shape, and what lies at any address: the program says what the document says; for every input the call returns true, and its arguments read afterwards as they did before. No condition beyond the row's own. -/
import Derived.Test.YtnfbggpkiekpdaaKR15u
import Derived.Test.YtnfbggpkiekpdaaKR15s
namespace Go.Proofs.Ytnfbggpkiekpdaa
set_option linter.unusedVariables false
set_option linter.unusedSimpArgs false
set_option linter.unnecessarySimpa false
open Go.ChangeShapes Go.WideShapes Go.ChangeAt Go.RowKit Go.Joins Go.Deep
theorem cf15a_s {c : DConf} (s : sCf c) : c.start.length ≤ 1152921504606846976 := by have := s.2.2.2.2.2.2.2.2.2.2.1; simp only [reachBytes] at this; omega
theorem ai15a_s {a : Int} (s : sI a) : -9223372036854775808 ≤ a ∧ a ≤ 9223372036854775807 := by unfold sI at s; omega
set_option maxRecDepth 100000 in
set_option maxHeartbeats 1000000 in
theorem layoutTells_lifted (os : Os) (started : os.Started) (H : Type) (enc : TypeId × Value → H) :
    ReturnsInHanded {} Try.checked os 4 .any (Rows.layoutTellsSpec.pre6 enc Try.prog Try.f4 Rows.layoutTellsRow.domain false) (Rows.layoutTellsSpec.post enc Try.prog Try.f4 false true false false) := by
  refine returnsInHanded_of_change_sized (C := Try.checked) own started (by kernel_rfl) Try.func4
    (ChangeSpec.witness6 (enc := enc) (C := Try.checked) false ⟨#[], #[.agg #[.int .i64 0, .int .i64 0, .int .i64 0, .int .i64 0, .int .i64 0, .int .i64 0, .int .i64 0, .int .i64 0, .int .i64 0, .int .i64 0, .slice none 0 0], .int .i64 0, .int .i64 0, .int .i64 0], []⟩ 8 (by kernel_rfl) (by kernel_rfl) (by kernel_rfl) (by kernel_rfl)) ?_
  intro W base args ds gs before hval0 hW hcnd hwt _
  have hval : ∀ (j : Nat) t v, Try.f4.params[j]? = some t → args[j]? = some v → Value.okWide Try.prog W .any base t v := hval0
  have hW' := hW
  obtain ⟨p, q, hA0, hV, hps, hfz, hnd⟩ := hW
  have hA : DataW.TrodAll enc Try.prog W 0 (fun _ => true) true Try.f4.params.toList args.toList ds p := hA0
  clear hA0
  rw [Try.params4] at hA hval hwt
  obtain ⟨v0, vs0, d0, ds0, p0, q0, hargs, rfl, rfl, h0, r0⟩ := trodAll_cons hA
  obtain ⟨v1, vs1, d1, ds1, p1, q1, rfl, rfl, rfl, h1, r1⟩ := trodAll_cons r0
  obtain ⟨v2, vs2, d2, ds2, p2, q2, rfl, rfl, rfl, h2, r2⟩ := trodAll_cons r1
  obtain ⟨v3, vs3, d3, ds3, p3, q3, rfl, rfl, rfl, h3, r3⟩ := trodAll_cons r2
  obtain ⟨rfl, rfl, rfl⟩ := trodAll_nil r3
  obtain rfl : args = #[v0, v1, v2, v3] := by cases args; simp_all
  obtain ⟨rfl, rfl⟩ := trodVars_none hV
  obtain ⟨c, sc, bc, Vc⟩ := (o_Cf (enc := enc) (W := W)).arg (b := true) (by kernel_rfl) (fun h => by cases h) (hval 0 _ v0 rfl rfl) h0
  replace sc := sc (wt_of (us := _) (gs := _) hwt (j := 0) rfl rfl)
  obtain ⟨t, st, bt, Vt⟩ := (o_int (enc := enc) (W := W)).arg (b := false) (by kernel_rfl) (fun _ _ => rfl) (hval 1 _ v1 rfl rfl) h1
  replace st := st (wt_of (us := _) (gs := _) hwt (j := 1) rfl rfl)
  obtain ⟨i, si, bi, Vi⟩ := (o_int (enc := enc) (W := W)).arg (b := false) (by kernel_rfl) (fun _ _ => rfl) (hval 2 _ v2 rfl rfl) h2
  replace si := si (wt_of (us := _) (gs := _) hwt (j := 2) rfl rfl)
  obtain ⟨a, sa, ba, Va⟩ := (o_int (enc := enc) (W := W)).arg (b := false) (by kernel_rfl) (fun _ _ => rfl) (hval 3 _ v3 rfl rfl) h3
  replace sa := sa (wt_of (us := _) (gs := _) hwt (j := 3) rfl rfl)
  clear hwt
  refine (Cd.law (layoutTells_c c t i a (cf15a_s sc) (ai15a_s sa)) (.cons (val_frzA (Vc _ _) (fun _ h => h)) (.cons (Vt _ _) (.cons (Vi _ _) (.cons (Va _ _) .nil))))).mono fun e W' ⟨he, hg⟩ => ?_
  subst he
  exact ⟨_, rfl, law_post laidOut (by decide +kernel) rfl Try.underlying4 rfl hW' ⟨rfl, rfl, rfl⟩ hg⟩
set_option maxRecDepth 100000 in
set_option maxHeartbeats 4000000 in
theorem layoutTells_closed : joinedFacts Try.prog 4 Try.f4 Rows.layoutTellsSpec Rows.layoutTellsRow = true := by
  unfold joinedFacts
  repeat' with_reducible refine and_mk ?_ ?_
  all_goals first | with_reducible exact mayEnter_ok | (rw [liftsFinal_ok]; kernel_rfl) | (rw [make_ok]; kernel_rfl) | as_aux_lemma => kernel_rfl
/-- THE STATEMENT. -/
theorem layoutTells_proved : Rows.LayoutTellsSaid :=
  OpenClaim.holds_of_wide 4 Try.f4 rfl rfl rfl rfl rfl rfl rfl ⟨rfl, rfl, rfl, rfl, rfl⟩ rfl rfl rfl rfl rfl (by as_aux_lemma => kernel_rfl) Try.func4 layoutTells_closed
    (of_decide_eq_true (by as_aux_lemma => kernel_rfl)) (by as_aux_lemma => unfold Func.isWrapper; first | (rw [if_pos (by decide +kernel)]; kernel_rfl) | (rw [if_neg (by decide +kernel)]; exact ⟨rfl, rfl⟩))
    (fun os started H enc _ => layoutTells_lifted os started H enc)
#print axioms layoutTells_proved
end Go.Proofs.Ytnfbggpkiekpdaa
