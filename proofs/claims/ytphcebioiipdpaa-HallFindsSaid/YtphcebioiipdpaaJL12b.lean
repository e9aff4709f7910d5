/- The law HallFinds of layer 12: where the channel of any handle is in any hall is by the program what it is by the reference; all handles are the same, and each but zero has its channel; two halls are the same by the program when they are so part by part; a copy is the same; for every input the call returns true, and its arguments read afterwards as they did before. No condition beyond the row's own. -/
import Derived.Test.YtphcebioiipdpaaJL12bi
namespace Go.Proofs.Ytphcebioiipdpaa
set_option linter.unusedVariables false
set_option linter.unusedSimpArgs false
set_option linter.unnecessarySimpa false
open Go.ChangeShapes Go.WideShapes Go.ChangeAt Go.RowKit Go.Joins Go.Deep
theorem okHl_f {h : DHall} (s : sHl h) : okHl h := by
  refine ⟨?_, fun x hx => ?_, ⟨?_, fun x hx => ?_⟩, ?_⟩
  · have := s.2.1.1; simp only [reachBytes] at this; omega
  · have := (s.2.1.2 x hx).2.2.2.2.1; simp only [reachBytes] at this; omega
  · have := s.2.2.1.1; simp only [reachBytes] at this; omega
  · have := (s.2.2.1.2 x hx).2.2.2.1; simp only [reachBytes] at this; omega
  · have := s.2.2.2.1; simp only [reachBytes] at this; omega
set_option maxRecDepth 100000 in
set_option maxHeartbeats 1000000 in
theorem hallFinds_lifted (os : Os) (started : os.Started) (H : Type) (enc : TypeId × Value → H) :
    ReturnsInHanded {} Try.checked os 6 .any (Rows.hallFindsSpec.pre6 enc Try.prog Try.f6 Rows.hallFindsRow.domain false) (Rows.hallFindsSpec.post enc Try.prog Try.f6 false true false false) := by
  refine returnsInHanded_of_change_sized (C := Try.checked) own started (by kernel_rfl) Try.func6
    (ChangeSpec.witness6 (enc := enc) (C := Try.checked) false ⟨#[], #[.agg #[.int .i64 0, .slice none 0 0, .slice none 0 0, .slice none 0 0], .agg #[.int .i64 0, .slice none 0 0, .slice none 0 0, .slice none 0 0], .int .i64 0], []⟩ 8 (by kernel_rfl) (by kernel_rfl) (by kernel_rfl) (by kernel_rfl)) ?_
  intro W base args ds gs before hval0 hW hcnd hwt _
  have hval : ∀ (j : Nat) t v, Try.f6.params[j]? = some t → args[j]? = some v → Value.okWide Try.prog W .any base t v := hval0
  have hW' := hW
  obtain ⟨p, q, hA0, hV, hps, hfz, hnd⟩ := hW
  have hA : DataW.TrodAll enc Try.prog W 0 (fun _ => true) true Try.f6.params.toList args.toList ds p := hA0
  clear hA0
  rw [Try.params6] at hA hval hwt
  obtain ⟨v0, vs0, d0, ds0, p0, q0, hargs, rfl, rfl, h0, r0⟩ := trodAll_cons hA
  obtain ⟨v1, vs1, d1, ds1, p1, q1, rfl, rfl, rfl, h1, r1⟩ := trodAll_cons r0
  obtain ⟨v2, vs2, d2, ds2, p2, q2, rfl, rfl, rfl, h2, r2⟩ := trodAll_cons r1
  obtain ⟨rfl, rfl, rfl⟩ := trodAll_nil r2
  obtain rfl : args = #[v0, v1, v2] := by cases args; simp_all
  obtain ⟨rfl, rfl⟩ := trodVars_none hV
  obtain ⟨h, sh, bh, Vh⟩ := (o_Hl (enc := enc) (W := W)).arg (b := true) (by kernel_rfl) (fun h => by cases h) (hval 0 _ v0 rfl rfl) h0
  replace sh := sh (wt_of (us := _) (gs := _) hwt (j := 0) rfl rfl)
  obtain ⟨g, sg, bg, Vg⟩ := (o_Hl (enc := enc) (W := W)).arg (b := true) (by kernel_rfl) (fun h => by cases h) (hval 1 _ v1 rfl rfl) h1
  replace sg := sg (wt_of (us := _) (gs := _) hwt (j := 1) rfl rfl)
  obtain ⟨x, sx, bx, Vx⟩ := (o_int (enc := enc) (W := W)).arg (b := false) (by kernel_rfl) (fun _ _ => rfl) (hval 2 _ v2 rfl rfl) h2
  replace sx := sx (wt_of (us := _) (gs := _) hwt (j := 2) rfl rfl)
  clear hwt
  refine (Cd.law (hallFinds_c h g x sx (okHl_f sh)) (.cons (Vh _ _) (.cons (Vg _ _) (.cons (Vx _ _) .nil)))).mono fun e W' ⟨he, hg⟩ => ?_
  subst he
  exact ⟨_, rfl, law_post laidOut (by decide +kernel) rfl Try.underlying4 rfl hW' ⟨rfl, rfl, rfl⟩ hg⟩
set_option maxRecDepth 100000 in
set_option maxHeartbeats 4000000 in
theorem hallFinds_closed : joinedFacts Try.prog 6 Try.f6 Rows.hallFindsSpec Rows.hallFindsRow = true := by
  unfold joinedFacts
  repeat' with_reducible refine and_mk ?_ ?_
  all_goals first | with_reducible exact mayEnter_ok | (rw [liftsFinal_ok]; kernel_rfl) | (rw [make_ok]; kernel_rfl) | as_aux_lemma => kernel_rfl
/-- THE STATEMENT. -/
theorem hallFinds_proved : Rows.HallFindsSaid :=
  OpenClaim.holds_of_wide 6 Try.f6 rfl rfl rfl rfl rfl rfl rfl ⟨rfl, rfl, rfl, rfl, rfl⟩ rfl rfl rfl rfl rfl (by as_aux_lemma => kernel_rfl) Try.func6 hallFinds_closed
    (of_decide_eq_true (by as_aux_lemma => kernel_rfl)) (by as_aux_lemma => unfold Func.isWrapper; first | (rw [if_pos (by decide +kernel)]; kernel_rfl) | (rw [if_neg (by decide +kernel)]; exact ⟨rfl, rfl⟩))
    (fun os started H enc _ => hallFinds_lifted os started H enc)
#print axioms hallFinds_proved
end Go.Proofs.Ytphcebioiipdpaa
