/- The law HallApplies of layer 12: what becomes of any hall, of any shape, by any call of any thread, is by the program what it is by the reference, and the hall that was handed in is as it was; halls at first are the same too; for every input the call returns true, and its arguments read afterwards as they did before. No condition beyond the row's own. -/
import Derived.Test.YtphcebioiipdpaaKAl
namespace Go.Proofs.Ytphcebioiipdpaa
set_option linter.unusedVariables false
set_option linter.unusedSimpArgs false
set_option linter.unnecessarySimpa false
open Go.ChangeShapes Go.WideShapes Go.ChangeAt Go.RowKit Go.Joins Go.Deep
theorem okHl_s {h : DHall} (s : sHl h) : okHl h := by
  refine ⟨?_, fun x hx => ?_, ⟨?_, fun x hx => ?_⟩, ?_⟩
  · have := s.2.1.1; simp only [reachBytes] at this; omega
  · have := (s.2.1.2 x hx).2.2.2.2.1; simp only [reachBytes] at this; omega
  · have := s.2.2.1.1; simp only [reachBytes] at this; omega
  · have := (s.2.2.1.2 x hx).2.2.2.1; simp only [reachBytes] at this; omega
  · have := s.2.2.2.1; simp only [reachBytes] at this; omega
theorem okQ_s {h : DHall} {q : DReq} (s : sHl h) (k : sRq q) : okQ h q :=
  ⟨k.2.1, k.2.2.1, k.2.2.2.2.2, by have := k.2.2.2.2.1; simp only [reachBytes] at this; omega, by have := s.1; unfold sI at this; omega, fun x hx => (s.2.1.2 x hx).1⟩
theorem oneH_hc {h : DHall} {wh : Int} {x : DCase} (hh : okHl h) (hf : fndOk h x.handle = true) : okHc (oneH h wh x).1 := by
  have hm := fnd_mem hf
  unfold oneH gotH
  refine ⟨by dsimp only; rw [List.length_set]; have := hh.c; omega, fun y hy => ?_, (doG_ok hh.w).1, by dsimp only; rw [tellL_len]; have := hh.d; omega⟩
  rcases List.mem_or_eq_of_mem_set hy with hy | rfl
  · have := hh.b y hy; omega
  · have h1 := hh.b _ hm
    have := (@doG_ok (chA h (fndP h x.handle)) x.handle h.waits x.dir x.value hh.w).2.2.1
    omega
theorem callH_hc {c : DConf} {h : DHall} {t n : Int} {q : DReq} (hh : okHl h) (hl : q.cases.length ≤ 5864062014805) : okHc (callH c h t n q).1 := by
  have b1 := hh.hc
  unfold callH
  split
  · unfold openH; split
    · exact b1
    · split
      · refine ⟨by dsimp only [cH]; rw [List.length_set]; exact b1.c, fun y hy => ?_, b1.w, b1.d⟩
        rcases List.mem_or_eq_of_mem_set hy with hy | rfl
        · exact b1.b y hy
        · exact Nat.zero_le _
      · exact b1
  · split
    · unfold freeH; split
      · split
        · refine ⟨by dsimp only [cH]; rw [List.length_set]; exact b1.c, fun y hy => ?_, b1.w, b1.d⟩
          rcases List.mem_or_eq_of_mem_set hy with hy | rfl
          · exact b1.b y hy
          · exact Nat.zero_le _
        · exact b1
      · exact b1
    · split
      · unfold chooseH; split
        · exact b1
        · rename_i hE
          obtain ⟨h3, -, -, h5⟩ := casesE_0 (Decidable.not_not.1 hE)
          split
          · rename_i h0
            exact oneH_hc hh (h5 _ (ixF_mem h0).1)
          · split
            · exact b1
            · split
              · exact b1
              · split
                · exact ⟨b1.c, b1.b, okW_put b1.w hl, b1.d⟩
                · exact b1
      · split
        · unfold closeH; split
          · rename_i hf
            obtain ⟨n', ch, _, _, hc, hu, _, e3, e4, _⟩ := fnd_yes hf
            rw [e3, e4]
            have hg := shutG_gen ch q.arg h.waits hu
            refine ⟨by dsimp only; rw [List.length_set]; exact b1.c, fun y hy => ?_, (shutG_b b1.w).1, by dsimp only; rw [tellL_len]; exact b1.d⟩
            rcases List.mem_or_eq_of_mem_set hy with hy | rfl
            · exact b1.b y hy
            · rw [hg.2.2.2]; exact b1.b _ (List.mem_of_getElem? hc)
          · exact b1
        · split
          · exact b1
          · split
            · unfold cancelH; split
              · exact ⟨b1.c, b1.b, okW_cut b1.w, by dsimp only; rw [noteL_len]; exact b1.d⟩
              · exact b1
            · exact b1
theorem applyH_hc {c : DConf} {h : DHall} {t n : Int} {q : DReq} (hh : okHl h) (hl : q.cases.length ≤ 5864062014805) : okHc (applyH c h t n q) := by
  have := callH_hc (c := c) (t := t) (n := n) hh hl
  exact ⟨this.c, this.b, this.w, by unfold applyH; dsimp only; rw [noteL_len]; exact this.d⟩
theorem cf12_s {c : DConf} (s : sCf c) : c.start.length ≤ 1152921504606846976 := by have := s.2.2.2.2.2.2.2.2.2.2.1; simp only [reachBytes] at this; omega
set_option maxRecDepth 100000 in
set_option maxHeartbeats 1000000 in
theorem hallApplies_lifted (os : Os) (started : os.Started) (H : Type) (enc : TypeId × Value → H) :
    ReturnsInHanded {} Try.checked os 3 .any (Rows.hallAppliesSpec.pre6 enc Try.prog Try.f3 Rows.hallAppliesRow.domain false) (Rows.hallAppliesSpec.post enc Try.prog Try.f3 false true false false) := by
  refine returnsInHanded_of_change_sized (C := Try.checked) own started (by kernel_rfl) Try.func3
    (ChangeSpec.witness6 (enc := enc) (C := Try.checked) false ⟨#[], #[.agg #[.int .i64 0, .int .i64 0, .int .i64 0, .int .i64 0, .int .i64 0, .int .i64 0, .int .i64 0, .int .i64 0, .int .i64 0, .int .i64 0, .slice none 0 0], .agg #[.int .i64 0, .slice none 0 0, .slice none 0 0, .slice none 0 0], .int .i64 0, .int .i64 0, .agg #[.int .i64 0, .int .i64 0, .int .i64 0, .bool false, .slice none 0 0]], []⟩ 8 (by kernel_rfl) (by kernel_rfl) (by kernel_rfl) (by kernel_rfl)) ?_
  intro W base args ds gs before hval0 hW hcnd hwt _
  have hval : ∀ (j : Nat) t v, Try.f3.params[j]? = some t → args[j]? = some v → Value.okWide Try.prog W .any base t v := hval0
  have hW' := hW
  obtain ⟨p, q, hA0, hV, hps, hfz, hnd⟩ := hW
  have hA : DataW.TrodAll enc Try.prog W 0 (fun _ => true) true Try.f3.params.toList args.toList ds p := hA0
  clear hA0
  rw [Try.params3] at hA hval hwt
  obtain ⟨v0, vs0, d0, ds0, p0, q0, hargs, rfl, rfl, h0, r0⟩ := trodAll_cons hA
  obtain ⟨v1, vs1, d1, ds1, p1, q1, rfl, rfl, rfl, h1, r1⟩ := trodAll_cons r0
  obtain ⟨v2, vs2, d2, ds2, p2, q2, rfl, rfl, rfl, h2, r2⟩ := trodAll_cons r1
  obtain ⟨v3, vs3, d3, ds3, p3, q3, rfl, rfl, rfl, h3, r3⟩ := trodAll_cons r2
  obtain ⟨v4, vs4, d4, ds4, p4, q4, rfl, rfl, rfl, h4, r4⟩ := trodAll_cons r3
  obtain ⟨rfl, rfl, rfl⟩ := trodAll_nil r4
  obtain rfl : args = #[v0, v1, v2, v3, v4] := by cases args; simp_all
  obtain ⟨rfl, rfl⟩ := trodVars_none hV
  obtain ⟨c, sc, bc, Vc⟩ := (o_Cf (enc := enc) (W := W)).arg (b := true) (by kernel_rfl) (fun h => by cases h) (hval 0 _ v0 rfl rfl) h0
  replace sc := sc (wt_of (us := _) (gs := _) hwt (j := 0) rfl rfl)
  obtain ⟨h, sh, bh, Vh⟩ := (o_Hl (enc := enc) (W := W)).arg (b := true) (by kernel_rfl) (fun h => by cases h) (hval 1 _ v1 rfl rfl) h1
  replace sh := sh (wt_of (us := _) (gs := _) hwt (j := 1) rfl rfl)
  obtain ⟨t, st, bt, Vt⟩ := (o_int (enc := enc) (W := W)).arg (b := false) (by kernel_rfl) (fun _ _ => rfl) (hval 2 _ v2 rfl rfl) h2
  replace st := st (wt_of (us := _) (gs := _) hwt (j := 2) rfl rfl)
  obtain ⟨n, sn, bn, Vn⟩ := (o_int (enc := enc) (W := W)).arg (b := false) (by kernel_rfl) (fun _ _ => rfl) (hval 3 _ v3 rfl rfl) h3
  replace sn := sn (wt_of (us := _) (gs := _) hwt (j := 3) rfl rfl)
  obtain ⟨q, sq, bq, Vq⟩ := (o_Rq (enc := enc) (W := W)).arg (b := true) (by kernel_rfl) (fun h => by cases h) (hval 4 _ v4 rfl rfl) h4
  replace sq := sq (wt_of (us := _) (gs := _) hwt (j := 4) rfl rfl)
  clear hwt
  refine (Cd.law (hallApplies_c c h t n q (cf12_s sc) (okQ_s sh sq) (okHl_s sh) (applyH_hc (okHl_s sh) (okQ_s sh sq).l)) (.cons (val_frzA (Vc _ _) (fun _ h => h)) (.cons (Vh _ _) (.cons (Vt _ _) (.cons (Vn _ _) (.cons (Vq _ _) .nil)))))).mono fun e W' ⟨he, hg⟩ => ?_
  subst he
  exact ⟨_, rfl, law_post laidOut (by decide +kernel) rfl Try.underlying4 rfl hW' ⟨rfl, rfl, rfl⟩ hg⟩
set_option maxRecDepth 100000 in
set_option maxHeartbeats 4000000 in
theorem hallApplies_closed : joinedFacts Try.prog 3 Try.f3 Rows.hallAppliesSpec Rows.hallAppliesRow = true := by
  unfold joinedFacts
  repeat' with_reducible refine and_mk ?_ ?_
  all_goals first | with_reducible exact mayEnter_ok | (rw [liftsFinal_ok]; kernel_rfl) | (rw [make_ok]; kernel_rfl) | as_aux_lemma => kernel_rfl
/-- THE STATEMENT. -/
theorem hallApplies_proved : Rows.HallAppliesSaid :=
  OpenClaim.holds_of_wide 3 Try.f3 rfl rfl rfl rfl rfl rfl rfl ⟨rfl, rfl, rfl, rfl, rfl⟩ rfl rfl rfl rfl rfl (by as_aux_lemma => kernel_rfl) Try.func3 hallApplies_closed
    (of_decide_eq_true (by as_aux_lemma => kernel_rfl)) (by as_aux_lemma => unfold Func.isWrapper; first | (rw [if_pos (by decide +kernel)]; kernel_rfl) | (rw [if_neg (by decide +kernel)]; exact ⟨rfl, rfl⟩))
    (fun os started H enc _ => hallApplies_lifted os started H enc)
#print axioms hallApplies_proved
end Go.Proofs.Ytphcebioiipdpaa
