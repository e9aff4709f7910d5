/- The law DiffSorts of layer 39: of which sorts, and of which nodes, any changes are, by any shape: the program says what the document says; for every input the call returns true, and its arguments read afterwards as they did before. No condition beyond the row's own. -/
import Derived.Test.YtnibnbcmnaflmaaKEn
namespace Go.Proofs.Ytnibnbcmnaflmaa
set_option linter.unusedVariables false
set_option linter.unusedSimpArgs false
set_option linter.unnecessarySimpa false
open Go.ChangeShapes Go.WideShapes Go.ChangeAt Go.RowKit Go.Joins Go.Deep
theorem cf39_s {c : DConf} (h : sCf c) : c.start.length ≤ 1152921504606846976 := by have := h.2.2.2.2.2.2.2.2.2.2.1; simp only [reachBytes] at this; omega
theorem xg39_s {l : List DXg} (h : sL sXg 24 l) : l.length ≤ 5864062014805 ∧ ∀ x ∈ l, sI x.addr := ⟨by have := h.1; simp only [reachBytes] at this; omega, fun x hx => (h.2 x hx).1⟩
set_option maxRecDepth 100000 in
set_option maxHeartbeats 1000000 in
theorem diffSorts_lifted (os : Os) (started : os.Started) (H : Type) (enc : TypeId × Value → H) :
    ReturnsInHanded {} Try.checked os 9 .any (Rows.diffSortsSpec.pre6 enc Try.prog Try.f9 Rows.diffSortsRow.domain false) (Rows.diffSortsSpec.post enc Try.prog Try.f9 false true false false) := by
  refine returnsInHanded_of_change_sized (C := Try.checked) own started (by kernel_rfl) Try.func9
    (ChangeSpec.witness6 (enc := enc) (C := Try.checked) false ⟨#[], #[.agg #[.int .i64 0, .int .i64 0, .int .i64 0, .int .i64 0, .int .i64 0, .int .i64 0, .int .i64 0, .int .i64 0, .int .i64 0, .int .i64 0, .slice none 0 0], .slice none 0 0], []⟩ 8 (by kernel_rfl) (by kernel_rfl) (by kernel_rfl) (by kernel_rfl)) ?_
  intro W base args ds gs before hval0 hW hcnd hwt _
  have hval : ∀ (j : Nat) t v, Try.f9.params[j]? = some t → args[j]? = some v → Value.okWide Try.prog W .any base t v := hval0
  have hW' := hW
  obtain ⟨p, q, hA0, hV, hps, hfz, hnd⟩ := hW
  have hA : DataW.TrodAll enc Try.prog W 0 (fun _ => true) true Try.f9.params.toList args.toList ds p := hA0
  clear hA0
  rw [Try.params9] at hA hval hwt
  obtain ⟨v0, vs0, d0, ds0, p0, q0, hargs, rfl, rfl, h0, r0⟩ := trodAll_cons hA
  obtain ⟨v1, vs1, d1, ds1, p1, q1, rfl, rfl, rfl, h1, r1⟩ := trodAll_cons r0
  obtain ⟨rfl, rfl, rfl⟩ := trodAll_nil r1
  obtain rfl : args = #[v0, v1] := by cases args; simp_all
  obtain ⟨rfl, rfl⟩ := trodVars_none hV
  obtain ⟨c, sc, bc, Vc⟩ := (o_Cf (enc := enc) (W := W)).arg (b := true) (by kernel_rfl) (fun h => by cases h) (hval 0 _ v0 rfl rfl) h0
  replace sc := sc (wt_of (us := _) (gs := _) hwt (j := 0) rfl rfl)
  obtain ⟨l, sl, bl, Vl⟩ := (o_Xgs (enc := enc) (W := W)).arg (b := false) (by kernel_rfl) (fun _ _ => rfl) (hval 1 _ v1 rfl rfl) h1
  replace sl := sl (wt_of (us := _) (gs := _) hwt (j := 1) rfl rfl)
  clear hwt
  refine (Cd.law (diffSorts_c c (cf39_s sc) l (xg39_s sl).1 (xg39_s sl).2) (.cons (Vc _ _) (.cons (Vl _ _) .nil))).mono fun e W' ⟨he, hg⟩ => ?_
  subst he
  exact ⟨_, rfl, law_post laidOut (by decide +kernel) rfl Try.underlying4 rfl hW' ⟨rfl, rfl, rfl⟩ hg⟩
set_option maxRecDepth 100000 in
set_option maxHeartbeats 4000000 in
theorem diffSorts_closed : joinedFacts Try.prog 9 Try.f9 Rows.diffSortsSpec Rows.diffSortsRow = true := by
  unfold joinedFacts
  repeat' with_reducible refine and_mk ?_ ?_
  all_goals first | with_reducible exact mayEnter_ok | (rw [liftsFinal_ok]; kernel_rfl) | (rw [make_ok]; kernel_rfl) | as_aux_lemma => kernel_rfl
/-- THE STATEMENT. -/
theorem diffSorts_proved : Rows.DiffSortsSaid :=
  OpenClaim.holds_of_wide 9 Try.f9 rfl rfl rfl rfl rfl rfl rfl ⟨rfl, rfl, rfl, rfl, rfl⟩ rfl rfl rfl rfl rfl (by as_aux_lemma => kernel_rfl) Try.func9 diffSorts_closed
    (of_decide_eq_true (by as_aux_lemma => kernel_rfl)) (by as_aux_lemma => unfold Func.isWrapper; first | (rw [if_pos (by decide +kernel)]; kernel_rfl) | (rw [if_neg (by decide +kernel)]; exact ⟨rfl, rfl⟩))
    (fun os started H enc _ => diffSorts_lifted os started H enc)
#print axioms diffSorts_proved
end Go.Proofs.Ytnibnbcmnaflmaa
