/- The law FifoSegments: any queue's values in pieces: all, in order, each piece full but the last one, by the program and by the reference: for every input of bulk at most 1048576 the call returns true, and its arguments read afterwards as they did before. -/
import Derived.Test.YtmljglphegeilaaKAe
namespace Go.Proofs.Ytmljglphegeilaa
set_option linter.unusedVariables false
set_option linter.unusedSimpArgs false
set_option linter.unnecessarySimpa false
open Go.ChangeShapes Go.WideShapes Go.ChangeAt Go.RowKit Go.Joins Go.Deep
theorem cells8_small {p : DCells} {n : Nat} (h : bCl p ≤ n) : p.list.length + p.done.length + 2 ≤ n := by
  have h1 := bL_le (b := b1) (fun a => by simp [b1]) p.list
  have h2 := bL_le (b := bR) (fun a => by simp [bR, b1]) p.done
  simp only [bCl] at h
  omega
set_option maxRecDepth 100000 in
set_option maxHeartbeats 1000000 in
theorem fifoSegmentsUpto_lifted (os : Os) (started : os.Started) (H : Type) (enc : TypeId × Value → H) (F : Stop.Interp) :
    ReturnsInHanded {} Try.checked os 3 .any ((Rows.OpenSpec.upto Rows.fifoSegmentsSpec).pre6 enc Try.prog Try.f3 Rows.fifoSegmentsUptoRow.domain false) (((Rows.OpenSpec.upto Rows.fifoSegmentsSpec).at F).post enc Try.prog Try.f3 false true false false) := by
  refine returnsInHanded_of_cond_sized (C := Try.checked) (s := (Rows.OpenSpec.upto Rows.fifoSegmentsSpec)) (k := Rows.uptoSmall) rfl own started (by kernel_rfl) Try.func3
    (OpenSpec.witness (enc := enc) (C := Try.checked) (s := (Rows.OpenSpec.upto Rows.fifoSegmentsSpec)) (k := Rows.uptoSmall) rfl false ⟨#[], #[.agg #[.int .i64 0, .slice none 0 0, .slice none 0 0], .agg #[.int .i64 0, .slice none 0 0, .slice none 0 0], .int .i64 0], []⟩ 8 (by kernel_rfl) (by kernel_rfl) (by kernel_rfl) (x := ([.agg [.lit (.int .i64 0), .nil, .nil], .agg [.lit (.int .i64 0), .nil, .nil], .lit (.int .i64 0)], [], [])) (by kernel_rfl) rfl (by kernel_rfl)) ?_
  intro W base args ds gs before hval0 hW hcnd hsmall hwt _
  have hval : ∀ (j : Nat) t v, Try.f3.params[j]? = some t → args[j]? = some v → Value.okWide Try.prog W .any base t v := hval0
  have hW' := hW
  obtain ⟨p, q, hA0, hV, hps, hfz, hnd⟩ := hW
  have hA : DataW.TrodAll enc Try.prog W 0 (fun _ => true) true Try.f3.params.toList args.toList ds p := hA0
  clear hA0
  rw [Try.params3] at hA hval hwt
  obtain ⟨v0, vs0, d0, ds0, p0, q0, hargs, rfl, rfl, h0, r0⟩ := trodAll_cons hA
  obtain ⟨v1, vs1, d1, ds1, p1, q1, rfl, rfl, rfl, h1, r1⟩ := trodAll_cons r0
  obtain ⟨v2, vs2, d2, ds2, p2, q2, rfl, rfl, rfl, h2, r2⟩ := trodAll_cons r1
  obtain ⟨rfl, rfl, rfl⟩ := trodAll_nil r2
  obtain rfl : args = #[v0, v1, v2] := by cases args; simp_all
  obtain ⟨rfl, rfl⟩ := trodVars_none hV
  have hbulk := bulk_of hsmall
  simp only [Rows.uptoBulkAll] at hbulk
  obtain ⟨c, sc, bc, Vc⟩ := (o_Cl (enc := enc) (W := W)).arg (b := true) (by kernel_rfl) (fun h => by cases h) (hval 0 _ v0 rfl rfl) h0
  replace sc := sc (wt_of (us := _) (gs := _) hwt (j := 0) rfl rfl)
  obtain ⟨d, sd, bd, Vd⟩ := (o_Cl (enc := enc) (W := W)).arg (b := true) (by kernel_rfl) (fun h => by cases h) (hval 1 _ v1 rfl rfl) h1
  replace sd := sd (wt_of (us := _) (gs := _) hwt (j := 1) rfl rfl)
  obtain ⟨size, ssize, bsize, Vsize⟩ := (o_int (enc := enc) (W := W)).arg (b := false) (by kernel_rfl) (fun _ _ => rfl) (hval 2 _ v2 rfl rfl) h2
  replace ssize := ssize (wt_of (us := _) (gs := _) hwt (j := 2) rfl rfl)
  clear hwt hsmall
  refine (Cd.law (fifoSegments_c c.cap c.list c.done d.cap d.list d.done size ssize (by have := cells8_small bc; omega) (by have := cells8_small bc; omega)) (.cons (Vc _ _) (.cons (Vd _ _) (.cons (Vsize _ _) .nil)))).mono fun e W' ⟨he, hg⟩ => ?_
  subst he
  exact ⟨_, rfl, law_post laidOut (by decide +kernel) rfl Try.underlying4 rfl hW' ⟨rfl, rfl, rfl⟩ hg⟩
set_option maxRecDepth 100000 in
set_option maxHeartbeats 4000000 in
theorem fifoSegmentsUpto_closed : joinedFacts Try.prog 3 Try.f3 (Rows.OpenSpec.upto Rows.fifoSegmentsSpec).bare Rows.fifoSegmentsUptoRow = true := by
  unfold joinedFacts
  repeat' with_reducible refine and_mk ?_ ?_
  all_goals first | with_reducible exact mayEnter_ok | (rw [liftsFinal_ok]; kernel_rfl) | (rw [make_ok]; kernel_rfl) | as_aux_lemma => kernel_rfl
/-- THE STATEMENT. -/
theorem fifoSegmentsUpto_proved : Rows.FifoSegmentsUptoSaid :=
  OpenClaim.holds_of_cond 3 Try.f3 rfl rfl rfl rfl rfl rfl rfl ⟨rfl, rfl, rfl, rfl, rfl⟩ rfl rfl rfl rfl rfl (by as_aux_lemma => kernel_rfl) Try.func3 fifoSegmentsUpto_closed
    (of_decide_eq_true (by as_aux_lemma => kernel_rfl)) (by as_aux_lemma => unfold Func.isWrapper; first | (rw [if_pos (by decide +kernel)]; kernel_rfl) | (rw [if_neg (by decide +kernel)]; exact ⟨rfl, rfl⟩))
    (fun os started H enc _ F => fifoSegmentsUpto_lifted os started H enc F)
#print axioms fifoSegmentsUpto_proved
end Go.Proofs.Ytmljglphegeilaa
