/- The laws of layer 13: CodeHalls, CodeCells. -/
import Derived.Test.YtijaphlmomcbfaaTLaw13
import Derived.Test.YtijaphlmomcbfaaTPutR
namespace Go.Proofs.Ytijaphlmomcbfaa
set_option linter.unusedVariables false
set_option linter.unusedSimpArgs false
set_option linter.unnecessarySimpa false
open Go.RowKit
set_option maxHeartbeats 32000000
attribute [local irreducible] AL AW RG Fin C Cd Cio thenQ blockQ retQ
set_option maxRecDepth 100000
set_option maxHeartbeats 8000000 in
theorem codeHalls_c (c : DConf) (h : DHall) (hs : c.start.length ≤ 1152921504606846976) (hh : okH h) : Cd Try.prog 4 [aCf c, aHl h] (bo true) [] := by
  have c1 := fitsH_c c h hs hh
  have c2 := rfitsH_c c h hs hh
  have c3 := putH_c c h hs hh
  have c4 := rputH_c c h hs hh
  have cW := words_same (putH c h) (by have := putH_b c h; omega)
  generalize putH c h = L at *
  cases hf : fitsH c h
  all_goals
    rw [hf] at c1 c2
    refine Cd.enter' Try.func4 rfl Try.ntmps4 rfl ?_
    repeat' (first | ((with_reducible refine kAL ?_); (first | refine A_box rfl rfl 24 _ rfl rfl (.push qL qN) ?_ | refine A_box rfl rfl 34 _ rfl rfl (.push qL qN) ?_ | refine A_as rfl rfl rfl rfl ?_ | refine AL.nil ?_)) | ((with_reducible refine kRG ?_); (first | refine R_load_agg rfl rfl 24 _ rfl ud24 rfl inf24 rfl rfl (us' := [_, _, _, _, _, _, _, _, _, _, _]) rfl rfl ?_ | refine R_load_agg rfl rfl 34 _ rfl ud34 rfl inf34 rfl rfl (us' := [_, _, _, _]) rfl rfl ?_ | (refine kR 650 rfl ?_; (refine R_cl rfl rfl Try.func20 rfl (c1) ?_; refine ⟨0, _, _, _, rfl, qU, qU, qZ, ?_⟩)) | (refine kR 682 rfl ?_; (refine R_cl rfl rfl Try.func21 rfl (c2) ?_; refine ⟨0, _, _, _, rfl, qU, qU, qZ, ?_⟩)) | refine R_beq rfl rfl 4 4 _ _ rfl ud4 rfl rfl ?_ | refine R_mt rfl rfl rfl rfl ?_ | (refine kR 746 rfl ?_; (refine R_cl rfl rfl Try.func23 rfl (c3) ?_; refine ⟨0, _, _, _, rfl, qU, qU, qZ, ?_⟩)) | (refine kR 778 rfl ?_; (refine R_cl rfl rfl Try.func24 rfl (c4) ?_; refine ⟨0, _, _, _, rfl, qU, qU, qZ, ?_⟩)) | (refine kR 714 rfl ?_; (refine R_cl rfl rfl Try.func22 rfl (cW) ?_; refine ⟨0, _, _, _, rfl, qU, qU, qZ, ?_⟩)) | (refine kR 19 rfl ?_; refine R_pkt rfl rfl _ _ _ rfl rfl rfl ?_) | (refine kR 618 rfl ?_; (refine R_cl rfl rfl Try.func19 rfl (awake13_c) ?_; refine ⟨0, _, _, _, rfl, qU, qU, qZ, ?_⟩)) | refine R_as rfl rfl rfl rfl ?_ | refine RG.nil ⟨by kernel_rfl, ?_⟩)) | (with_reducible (first | refine wk0 ?_ | refine wk2 ?_ | refine wk9 ?_ | refine wkb ?_)) | with_reducible refine AW.at_region _ ?_ | refine AW.at_draw 1 mixed 0 [[], [], [0, 1], [], [], [0, 1, 2, 3, 4], [0, 1, 2, 3, 4, 5], [0, 1, 2, 3, 4, 5, 6], [0, 1, 2, 3, 4, 5, 6, 7], [0, 1, 2, 3, 4, 5, 6, 7], [0, 1, 2, 3, 4, 5, 6, 7, 8, 9], [0, 1, 2, 3, 4, 5, 6, 7], [0, 1, 2, 3, 4, 5, 6, 7], [0, 1, 2, 3, 4, 5, 6, 7, 8, 9, 10, 11, 12], [0, 1, 2, 3, 4, 5, 6, 7, 8, 9, 10, 11, 12, 13], [0, 1, 2, 3, 4, 5, 6, 7, 8, 9, 10, 11, 12, 13, 14], [0, 1, 2, 3, 4, 5, 6, 7, 8, 9, 10, 11, 12, 13, 14, 15], [0, 1, 2, 3, 4, 5, 6, 7, 8, 9, 10, 11, 12, 13, 14, 15, 16], [0, 1, 2, 3, 4, 5, 6, 7, 8, 9, 10, 11, 12, 13, 14, 15, 16, 17], [0, 1, 2, 3, 4, 5, 6, 7, 8, 9, 10, 11, 12, 13, 14, 15, 16, 17, 18]] qR ?_)
    all_goals first | (exfalso; omega) | (exact Fin.q Try.results4 (.cons (.tmp rfl) .nil) [])
set_option maxHeartbeats 8000000 in
theorem codeCells_c (c : DConf) (x : DCells) (hs : c.start.length ≤ 1152921504606846976) (k1 : x.list.length ≤ 1152921504606846976) (k2 : x.done.length ≤ 1152921504606846976) : Cd Try.prog 6 [aCf c, aCl x] (bo true) [] := by
  have c1 := fitsX_c c x hs k1 k2
  have c2 := rfitsX_c c x hs k1 k2
  have c3 := putX_c c x hs k1 k2
  have c4 := rputX_c c x hs k1 k2
  have cW := words_same (putX c x) (by have := putX_b c x; omega)
  generalize putX c x = L at *
  cases hf : fitsX c x
  all_goals
    rw [hf] at c1 c2
    refine Cd.enter' Try.func6 rfl Try.ntmps6 rfl ?_
    repeat' (first | ((with_reducible refine kAL ?_); (first | refine A_box rfl rfl 24 _ rfl rfl (.push qL qN) ?_ | refine A_box rfl rfl 44 _ rfl rfl (.push qL qN) ?_ | refine A_as rfl rfl rfl rfl ?_ | refine AL.nil ?_)) | ((with_reducible refine kRG ?_); (first | refine R_load_agg rfl rfl 24 _ rfl ud24 rfl inf24 rfl rfl (us' := [_, _, _, _, _, _, _, _, _, _, _]) rfl rfl ?_ | refine R_load_agg rfl rfl 44 _ rfl ud44 rfl inf44 rfl rfl (us' := [_, _, _]) rfl rfl ?_ | (refine kR 874 rfl ?_; (refine R_cl rfl rfl Try.func27 rfl (c1) ?_; refine ⟨0, _, _, _, rfl, qU, qU, qZ, ?_⟩)) | (refine kR 906 rfl ?_; (refine R_cl rfl rfl Try.func28 rfl (c2) ?_; refine ⟨0, _, _, _, rfl, qU, qU, qZ, ?_⟩)) | refine R_beq rfl rfl 4 4 _ _ rfl ud4 rfl rfl ?_ | refine R_mt rfl rfl rfl rfl ?_ | (refine kR 938 rfl ?_; (refine R_cl rfl rfl Try.func29 rfl (c3) ?_; refine ⟨0, _, _, _, rfl, qU, qU, qZ, ?_⟩)) | (refine kR 970 rfl ?_; (refine R_cl rfl rfl Try.func30 rfl (c4) ?_; refine ⟨0, _, _, _, rfl, qU, qU, qZ, ?_⟩)) | (refine kR 714 rfl ?_; (refine R_cl rfl rfl Try.func22 rfl (cW) ?_; refine ⟨0, _, _, _, rfl, qU, qU, qZ, ?_⟩)) | (refine kR 19 rfl ?_; refine R_pkt rfl rfl _ _ _ rfl rfl rfl ?_) | (refine kR 618 rfl ?_; (refine R_cl rfl rfl Try.func19 rfl (awake13_c) ?_; refine ⟨0, _, _, _, rfl, qU, qU, qZ, ?_⟩)) | refine R_as rfl rfl rfl rfl ?_ | refine RG.nil ⟨by kernel_rfl, ?_⟩)) | (with_reducible (first | refine wk0 ?_ | refine wk2 ?_ | refine wk9 ?_ | refine wkb ?_)) | with_reducible refine AW.at_region _ ?_ | refine AW.at_draw 1 mixed 0 [[], [], [0, 1], [], [], [0, 1, 2, 3, 4], [0, 1, 2, 3, 4, 5], [0, 1, 2, 3, 4, 5, 6], [0, 1, 2, 3, 4, 5, 6, 7], [0, 1, 2, 3, 4, 5, 6, 7], [0, 1, 2, 3, 4, 5, 6, 7, 8, 9], [0, 1, 2, 3, 4, 5, 6, 7], [0, 1, 2, 3, 4, 5, 6, 7], [0, 1, 2, 3, 4, 5, 6, 7, 8, 9, 10, 11, 12], [0, 1, 2, 3, 4, 5, 6, 7, 8, 9, 10, 11, 12, 13], [0, 1, 2, 3, 4, 5, 6, 7, 8, 9, 10, 11, 12, 13, 14], [0, 1, 2, 3, 4, 5, 6, 7, 8, 9, 10, 11, 12, 13, 14, 15], [0, 1, 2, 3, 4, 5, 6, 7, 8, 9, 10, 11, 12, 13, 14, 15, 16], [0, 1, 2, 3, 4, 5, 6, 7, 8, 9, 10, 11, 12, 13, 14, 15, 16, 17], [0, 1, 2, 3, 4, 5, 6, 7, 8, 9, 10, 11, 12, 13, 14, 15, 16, 17, 18]] qR ?_)
    all_goals first | (exfalso; omega) | (exact Fin.q Try.results6 (.cons (.tmp rfl) .nil) [])
end Go.Proofs.Ytijaphlmomcbfaa
