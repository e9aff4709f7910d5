/- stopgateplain.Hall: a hall, and the same. -/
import Derived.Test.YtijaphlmomcbfaaTWords
import Derived.Test.YtijaphlmomcbfaaTFits
namespace Go.Proofs.Ytijaphlmomcbfaa
set_option linter.unusedVariables false
set_option linter.unusedSimpArgs false
set_option linter.unnecessarySimpa false
open Go.RowKit
set_option maxHeartbeats 32000000
attribute [local irreducible] AL AW RG Fin C Cd Cio thenQ blockQ retQ
set_option maxRecDepth 100000
theorem chanS_c (x : DChan) (hb : x.buf.length ≤ 1152921504606846976) : Cd Try.prog 103 [aCh x, aCh x] (bo true) [] := by
  have hI := ints_c x.buf x.buf hb
  rw [decide_eq_true rfl] at hI
  obtain ⟨g, cap, used, closed, buf⟩ := x
  dsimp only [aCh] at hI ⊢
  cases used <;> cases closed
  all_goals
    refine Cd.enter' Try.func103 rfl Try.ntmps103 rfl ?_
    repeat' (first | ((with_reducible refine kAL ?_); (first | refine A_box rfl rfl 83 _ rfl rfl (.push qL qN) ?_ | refine A_as rfl rfl rfl rfl ?_ | (refine kL 2660 rfl ?_; (first | refine A_field rfl rfl 83 _ 0 rfl ud83 rfl inf3 (by decide) 0 rfl rfl ?_ | refine A_field rfl rfl 83 _ 1 rfl ud83 rfl inf3 (by decide) 1 rfl rfl ?_ | refine A_field rfl rfl 83 _ 2 rfl ud83 rfl inf4 (by decide) 2 rfl rfl ?_ | refine A_field rfl rfl 83 _ 3 rfl ud83 rfl inf4 (by decide) 3 rfl rfl ?_ | refine A_field rfl rfl 83 _ 4 rfl ud83 rfl inf22 (by decide) 4 rfl rfl ?_)) | refine A_load rfl rfl 3 _ rfl ud3 rfl rfl rfl rfl ?_ | (refine kL 105 rfl ?_; (first | refine A_cmp (d := 9) rfl rfl (c := true) .eql 3 3 _ _ rfl rfl rfl (by exact congrArg some (decide_eq_true (by (try (dsimp only; fail_if_success done)); omega))) ?_ | refine A_cmp (d := 15) rfl rfl (c := true) .eql 3 3 _ _ rfl rfl rfl (by exact congrArg some (decide_eq_true (by (try (dsimp only; fail_if_success done)); omega))) ?_)) | refine A_mt rfl rfl rfl rfl ?_ | refine A_pick rfl rfl _ _ _ rfl rfl rfl rfl rfl ?_ | refine A_load rfl rfl 4 _ rfl ud4 rfl rfl rfl rfl ?_ | refine A_beq rfl rfl 4 4 _ _ rfl ud4 rfl rfl ?_ | refine A_load rfl rfl 22 _ rfl ud22 rfl rfl rfl rfl ?_ | (refine kL 2186 rfl ?_; refine A_cl rfl rfl Try.func68 rfl (hI) ?_) | refine AL.nil ?_)) | with_reducible refine AW.at_region _ ?_ | (with_reducible (first | refine wk0 ?_ | refine wk2 ?_ | refine wk9 ?_ | refine wkb ?_)))
    all_goals first | (exfalso; omega) | (exact Fin.q Try.results103 (.cons (.tmp rfl) .nil) [])
set_option maxHeartbeats 4000000 in
theorem hallS_c (h : DHall) (hh : okH h) (hw : okW h.waits) : Cd Try.prog 26 [aHl h, aHl h] (bo true) [] := by
  have h1 : (h.chans.map tCh).length = h.chans.length := List.length_map _
  have cW := waits_same h.waits hw
  have cR := results_c h.done h.done hh.d
  have hc0 := hh.c
  rw [decide_eq_true rfl] at cR
  refine Cd.enter' Try.func26 rfl Try.ntmps26 rfl ?_
  repeat' (first | ((with_reducible refine kAL ?_); (first | refine A_box rfl rfl 34 _ rfl rfl (.push qL qN) ?_ | refine A_as rfl rfl rfl rfl ?_ | (refine kL 1092 rfl ?_; (first | refine A_field rfl rfl 34 _ 0 rfl ud34 rfl inf3 (by decide) 0 rfl rfl ?_ | refine A_field rfl rfl 34 _ 1 rfl ud34 rfl inf30 (by decide) 1 rfl rfl ?_)) | refine A_load rfl rfl 3 _ rfl ud3 rfl rfl rfl rfl ?_ | (refine kL 105 rfl ?_; (first | refine A_cmp (d := 10) rfl rfl (c := false) .neq 3 3 _ _ rfl rfl rfl (by exact congrArg some (decide_eq_false (by (try (dsimp only; fail_if_success done)); omega))) ?_ | refine A_cmp (d := 18) rfl rfl (c := false) .neq 3 3 _ _ rfl rfl rfl (by exact congrArg some (decide_eq_false (by (try (dsimp only; fail_if_success done)); omega))) ?_)) | refine A_mt rfl rfl rfl rfl ?_ | refine A_load rfl rfl 30 _ rfl ud30 rfl rfl rfl rfl ?_ | refine A_len rfl rfl 30 _ rfl ud30 rfl ?_ | refine A_pick rfl rfl _ _ _ rfl rfl rfl rfl rfl ?_ | refine AL.nil ?_)) | (with_reducible (first | refine wk0 ?_ | refine wk1 ?_ | refine wk2 ?_ | refine wkd ?_)) | refine kcf rfl ?_ | with_reducible refine AW.at_region _ ?_)
  all_goals first | (exfalso; omega) | skip
  refine AW.loopP (fun (i : Nat) => i ≤ h.chans.length) (fun (i : Nat) => (pu (pu (pu (pu (fun _ => .any) 2 (.ptr 0 0)) 3 (.ptr 1 0)) 22 (i64 (h.chans.map tCh).length)) 23 (i64 i))) (fun (i : Nat) => [.box 34 [i64 h.ticket, .ln (h.chans.map tCh), .ln (h.waits.map tWt), .ln (h.done.map tR)], .box 34 [i64 h.ticket, .ln (h.chans.map tCh), .ln (h.waits.map tWt), .ln (h.done.map tR)]]) (fun (i : Nat) => h.chans.length - i) (0) ?_ ?_ ?_
  · exact Nat.zero_le _
  · exact Wk.cq 2
  · intro i hi
    by_cases hq : i < h.chans.length
    · obtain ⟨x, hx⟩ : ∃ x, h.chans[i]? = some x := ⟨_, List.getElem?_eq_getElem hq⟩
      have cC := chanS_c x (hh.b x (List.mem_of_getElem? hx))
      repeat' (first | ((with_reducible refine kAL ?_); (first | refine A_as rfl rfl rfl rfl ?_ | (refine kL 105 rfl ?_; (first | refine A_cmp (d := 24) rfl rfl (c := true) .lss 3 3 _ _ rfl rfl rfl (by exact congrArg some (decide_eq_true (by (try (dsimp only; fail_if_success done)); omega))) ?_ | refine A_add rfl rfl 3 3 _ _ rfl rfl rfl (by exact wi) ?_)) | refine A_mt rfl rfl rfl rfl ?_ | refine AL.nil ?_)) | ((with_reducible refine kRG ?_); (first | refine R_field rfl rfl 34 _ 1 rfl ud34 rfl inf30 (by decide) 1 rfl rfl ?_ | refine R_load rfl rfl 30 _ rfl ud30 rfl rfl rfl rfl ?_ | refine R_mt rfl rfl rfl rfl ?_ | (refine kR 966 rfl ?_; refine R_idx rfl rfl 30 _ _ rfl ud30 inf83 (by decide) (by exact .inl rfl) rfl (by omega) _ (by with_reducible exact Int.toNat_natCast _) (by exact map_get (by assumption)) rfl (cs' := [_, _, _, _, _]) rfl ?_) | refine R_load_lp_agg rfl rfl 83 _ rfl ud83 rfl inf83 rfl (us' := [_, _, _, _, _]) rfl rfl ?_ | (refine kR 3306 rfl ?_; (refine R_cl rfl rfl Try.func103 rfl (cC) ?_; refine ⟨0, _, _, _, rfl, qU, qU, qZ, ?_⟩)) | refine R_not rfl rfl _ _ rfl rfl ?_ | refine RG.nil ⟨by kernel_rfl, ?_⟩)) | (with_reducible (first | refine wk0 ?_ | refine wk1 ?_ | refine wk2 ?_ | refine wk5 ?_ | refine wkd ?_)) | refine kct rfl ?_ | refine kcf rfl ?_ | with_reducible refine AW.at_region _ ?_ | refine AW.at_draw 6 mixed 0 [[], [0], [], [0, 1, 2], [0, 1, 2, 3], [], [5], [], [5, 6, 7], [5, 6, 7, 8], [0, 1, 2, 3, 4, 5, 6, 7, 8, 9], [0, 1, 2, 3, 4, 5, 6, 7, 8, 9, 10]] qR ?_)
      all_goals first | (exfalso; omega) | skip
      refine ⟨i + 1, by omega, by omega, ?_⟩
      exact Wk.cq 2
    · repeat' (first | ((with_reducible refine kAL ?_); (first | refine A_as rfl rfl rfl rfl ?_ | (refine kL 1092 rfl ?_; (first | refine A_field rfl rfl 34 _ 2 rfl ud34 rfl inf31 (by decide) 2 rfl rfl ?_ | refine A_field rfl rfl 34 _ 3 rfl ud34 rfl inf32 (by decide) 3 rfl rfl ?_)) | refine A_cmp (d := 24) rfl rfl (c := false) .lss 3 3 _ _ rfl rfl rfl (by exact congrArg some (decide_eq_false (by (try (dsimp only; fail_if_success done)); omega))) ?_ | refine A_mt rfl rfl rfl rfl ?_ | refine A_pick rfl rfl _ _ _ rfl rfl rfl rfl rfl ?_ | refine A_load rfl rfl 31 _ rfl ud31 rfl rfl rfl rfl ?_ | (refine kL 3338 rfl ?_; refine A_cl rfl rfl Try.func104 rfl (cW) ?_) | refine A_load rfl rfl 32 _ rfl ud32 rfl rfl rfl rfl ?_ | (refine kL 2282 rfl ?_; refine A_cl rfl rfl Try.func71 rfl (cR) ?_) | refine AL.nil ?_)) | (with_reducible (first | refine wk0 ?_ | refine wk2 ?_ | refine wk4 ?_ | refine wk7 ?_ | refine wk9 ?_ | refine wkb ?_ | refine wkc ?_)) | refine kcf rfl ?_ | with_reducible refine AW.at_region _ ?_)
      all_goals first | (exfalso; omega) | (exact Fin.q Try.results26 (.cons (.tmp rfl) .nil) [])
end Go.Proofs.Ytijaphlmomcbfaa
