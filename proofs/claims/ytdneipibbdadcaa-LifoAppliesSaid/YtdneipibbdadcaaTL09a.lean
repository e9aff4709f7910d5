/- The law LifoApplies of layer 9: any stack behind any call of any thread, by the program and by the reference, is the same; for every input the call returns true, and its arguments read afterwards as they did before. No condition beyond the row's own. -/
import Derived.Test.YtdneipibbdadcaaTData
import Derived.Test.YtdneipibbdadcaaTLaw09
namespace Go.Proofs.Ytdneipibbdadcaa
set_option linter.unusedVariables false
set_option linter.unusedSimpArgs false
set_option linter.unnecessarySimpa false
open Go.ChangeShapes Go.WideShapes Go.ChangeAt Go.RowKit Go.Joins Go.Deep
set_option maxRecDepth 100000 in
set_option maxHeartbeats 1000000 in
theorem lifoApplies_lifted (os : Os) (started : os.Started) (H : Type) (enc : TypeId × Value → H) :
    ReturnsInHanded {} Try.checked os 6 .any (Rows.lifoAppliesSpec.pre6 enc Try.prog Try.f6 Rows.lifoAppliesRow.domain false) (Rows.lifoAppliesSpec.post enc Try.prog Try.f6 false true false false) := by
  refine returnsInHanded_of_change_sized (C := Try.checked) own started (by kernel_rfl) Try.func6
    (ChangeSpec.witness6 (enc := enc) (C := Try.checked) false ⟨#[], #[.agg #[.int .i64 0, .slice none 0 0, .slice none 0 0], .int .i64 0, .int .i64 0, .agg #[.int .i64 0, .int .i64 0, .int .i64 0, .bool false, .slice none 0 0], .int .i64 0, .int .i64 0], []⟩ 8 (by kernel_rfl) (by kernel_rfl) (by kernel_rfl) (by kernel_rfl)) ?_
  intro W base args ds gs before hval0 hW hcnd hwt _
  have hval : ∀ (j : Nat) t v, Try.f6.params[j]? = some t → args[j]? = some v → Value.okWide Try.prog W .any base t v := hval0
  have hW' := hW
  obtain ⟨p, q, hA0, hV, hps, hfz, hnd⟩ := hW
  have hA : DataW.TrodAll enc Try.prog W 0 (fun _ => true) true Try.f6.params.toList args.toList ds p := hA0
  clear hA0
  rw [Try.params6] at hA hval hwt
  obtain ⟨v0, vs0, d0, ds0, p0, q0, hargs, rfl, rfl, h0, r0⟩ := trodAll_cons hA
  obtain ⟨v1, vs1, d1, ds1, p1, q1, rfl, rfl, rfl, h1, r1⟩ := trodAll_cons r0
  obtain ⟨v2, vs2, d2, ds2, p2, q2, rfl, rfl, rfl, h2, r2⟩ := trodAll_cons r1
  obtain ⟨v3, vs3, d3, ds3, p3, q3, rfl, rfl, rfl, h3, r3⟩ := trodAll_cons r2
  obtain ⟨v4, vs4, d4, ds4, p4, q4, rfl, rfl, rfl, h4, r4⟩ := trodAll_cons r3
  obtain ⟨v5, vs5, d5, ds5, p5, q5, rfl, rfl, rfl, h5, r5⟩ := trodAll_cons r4
  obtain ⟨rfl, rfl, rfl⟩ := trodAll_nil r5
  obtain rfl : args = #[v0, v1, v2, v3, v4, v5] := by cases args; simp_all
  obtain ⟨rfl, rfl⟩ := trodVars_none hV
  obtain ⟨c, sc, bc, Vc⟩ := (o_Cl (enc := enc) (W := W)).arg (b := true) (by kernel_rfl) (fun h => by cases h) (hval 0 _ v0 rfl rfl) h0
  replace sc := sc (wt_of (us := _) (gs := _) hwt (j := 0) rfl rfl)
  obtain ⟨t, st, bt, Vt⟩ := (o_int (enc := enc) (W := W)).arg (b := false) (by kernel_rfl) (fun _ _ => rfl) (hval 1 _ v1 rfl rfl) h1
  replace st := st (wt_of (us := _) (gs := _) hwt (j := 1) rfl rfl)
  obtain ⟨s, ss, bs, Vs⟩ := (o_int (enc := enc) (W := W)).arg (b := false) (by kernel_rfl) (fun _ _ => rfl) (hval 2 _ v2 rfl rfl) h2
  replace ss := ss (wt_of (us := _) (gs := _) hwt (j := 2) rfl rfl)
  obtain ⟨q, sq, bq, Vq⟩ := (o_Rq (enc := enc) (W := W)).arg (b := true) (by kernel_rfl) (fun h => by cases h) (hval 3 _ v3 rfl rfl) h3
  replace sq := sq (wt_of (us := _) (gs := _) hwt (j := 3) rfl rfl)
  obtain ⟨capacity, scapacity, bcapacity, Vcapacity⟩ := (o_int (enc := enc) (W := W)).arg (b := false) (by kernel_rfl) (fun _ _ => rfl) (hval 4 _ v4 rfl rfl) h4
  replace scapacity := scapacity (wt_of (us := _) (gs := _) hwt (j := 4) rfl rfl)
  obtain ⟨threads, sthreads, bthreads, Vthreads⟩ := (o_int (enc := enc) (W := W)).arg (b := false) (by kernel_rfl) (fun _ _ => rfl) (hval 5 _ v5 rfl rfl) h5
  replace sthreads := sthreads (wt_of (us := _) (gs := _) hwt (j := 5) rfl rfl)
  clear hwt
  refine (Cd.law ((lifoApplies_c c.cap c.list c.done t s q.kind q.arg q.value capacity threads (by have := sc.2.1.1; simp only [reachBytes] at this; omega) (by have := sc.2.2.1; simp only [reachBytes] at this; omega)).weak (by repeat (first | exact .nil | refine .cons ?_ ?_ | exact .refl _ | exact .any _ | refine .aggL ?_))) (.cons (Vc _ _) (.cons (Vt _ _) (.cons (Vs _ _) (.cons (Vq _ _) (.cons (Vcapacity _ _) (.cons (Vthreads _ _) .nil))))))).mono fun e W' ⟨he, hg⟩ => ?_
  subst he
  exact ⟨_, rfl, law_post laidOut (by decide +kernel) rfl Try.underlying4 rfl hW' ⟨rfl, rfl, rfl⟩ hg⟩
set_option maxRecDepth 100000 in
theorem lifoApplies_closed : joinedFacts Try.prog 6 Try.f6 Rows.lifoAppliesSpec Rows.lifoAppliesRow = true := by
  unfold joinedFacts
  repeat' with_reducible refine and_mk ?_ ?_
  all_goals first | with_reducible exact mayEnter_ok | (rw [liftsFinal_ok]; kernel_rfl) | (rw [make_ok]; kernel_rfl) | as_aux_lemma => kernel_rfl
/-- THE STATEMENT. -/
theorem lifoApplies_proved : Rows.LifoAppliesSaid :=
  OpenClaim.holds_of_wide 6 Try.f6 rfl rfl rfl rfl rfl rfl rfl ⟨rfl, rfl, rfl, rfl, rfl⟩ rfl rfl rfl rfl rfl (by as_aux_lemma => kernel_rfl) Try.func6 lifoApplies_closed
    (of_decide_eq_true (by as_aux_lemma => kernel_rfl)) (by as_aux_lemma => unfold Func.isWrapper; first | (rw [if_pos (by decide +kernel)]; kernel_rfl) | (rw [if_neg (by decide +kernel)]; exact ⟨rfl, rfl⟩))
    (fun os started H enc _ => lifoApplies_lifted os started H enc)
#print axioms lifoApplies_proved
end Go.Proofs.Ytdneipibbdadcaa
