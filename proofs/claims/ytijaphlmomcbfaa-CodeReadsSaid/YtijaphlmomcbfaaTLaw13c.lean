/- The laws of layer 13: CodeReads. -/
import Derived.Test.YtijaphlmomcbfaaTLaw13
import Derived.Test.YtijaphlmomcbfaaTReadS
namespace Go.Proofs.Ytijaphlmomcbfaa
set_option linter.unusedVariables false
set_option linter.unusedSimpArgs false
set_option linter.unnecessarySimpa false
open Go.RowKit
set_option maxHeartbeats 32000000
attribute [local irreducible] AL AW RG Fin C Cd Cio thenQ blockQ retQ
set_option maxRecDepth 100000
theorem okHW_read (c : DConf) (l : List Int) (h : mayH c l = true) : okW (rawH c l).waits := by
  have h1 := okH_read c l h
  unfold mayH at h
  simp only [Bool.and_eq_true, decide_eq_true_eq] at h
  obtain ⟨⟨⟨h0, _⟩, _⟩, _⟩ := h
  have hs := chkC_shaped h0
  have t1 := hs.t1
  refine ⟨?_, fun x hx => ?_⟩
  · show (rdWs _ _).length ≤ _; rw [rdWs_len]; omega
  · obtain ⟨i, _, rfl⟩ := List.mem_map.1 hx
    show (((List.take _ _).map rdK).length) ≤ _
    simp; omega
set_option maxHeartbeats 8000000 in
theorem codeReads_c (c : DConf) (l : List Int) (hs : c.start.length ≤ 1152921504606846976) (hU : okU l) (hl : l.length ≤ 1152921504606846976) : Cd Try.prog 7 [aCf c, fU l] (bo true) [] := by
  have c1 := readH_c c l hs hU hl
  have c2 := rreadH_c c l hs hU hl
  have c3 := readX_c c l hs hU hl
  have c4 := rreadX_c c l hs hU hl
  have o1 : okH (readH c l) ∧ okW (readH c l).waits := by
    cases hm : mayH c l
    · rw [noH_of hm]; exact ⟨⟨by decide, by decide, by decide, by decide, by decide⟩, ⟨by decide, by decide⟩⟩
    · rw [rawH_of hm]; exact ⟨okH_read c l hm, okHW_read c l hm⟩
  have o2 : (readX c l).list.length ≤ 1152921504606846976 ∧ (readX c l).done.length ≤ 1152921504606846976 := by
    cases hm : mayX c l
    · rw [noX_of hm]; exact ⟨by decide, by decide⟩
    · rw [rawX_of hm]
      unfold mayX at hm
      simp only [Bool.and_eq_true, decide_eq_true_eq] at hm
      obtain ⟨⟨⟨h0, h1⟩, _⟩, _⟩ := hm
      have hsh := chkC_shaped h0
      have hb := hsh.h1 h1
      have t1 := hsh.t1
      refine ⟨?_, ?_⟩
      · have := rdRow_len (l.drop 1) c.cap.toNat (l.headD 0); show (rdRow _ _ _).length ≤ _; omega
      · show (rdRs _ _).length ≤ _; simp [rdRs]; omega
  have cH := hallS_c (readH c l) o1.1 o1.2
  have cX := cells_c (readX c l).cap (readX c l).cap (readX c l).list (readX c l).list (readX c l).done (readX c l).done o2.1 o2.2
  rw [decide_eq_true ⟨rfl, rfl, rfl⟩] at cX
  clear o1 o2
  generalize readH c l = H0 at *
  generalize readX c l = X0 at *
  generalize mayH c l = m1 at *
  generalize mayX c l = m2 at *
  cases m1 <;> cases m2
  all_goals
    refine Cd.enter' Try.func7 rfl Try.ntmps7 rfl ?_
    repeat' (first | ((with_reducible refine kAL ?_); (first | refine A_box rfl rfl 24 _ rfl rfl (.push qL qN) ?_ | refine A_as rfl rfl rfl rfl ?_ | refine A_load_agg rfl rfl 24 _ rfl ud24 rfl inf24 rfl rfl (us' := [_, _, _, _, _, _, _, _, _, _, _]) rfl rfl ?_ | (refine kL 0 rfl ?_; (first | refine A_mt rfl rfl rfl rfl ?_ | refine A_move rfl rfl _ (.inl rfl) (y := .tup _) rfl ?_)) | (refine kL 810 rfl ?_; refine A_cl rfl rfl Try.func25 rfl (c1) ?_) | (refine kL 18 rfl ?_; (first | refine A_extract rfl rfl _ 0 rfl rfl rfl ?_ | refine A_extract rfl rfl _ 1 rfl rfl rfl ?_)) | refine A_alloc rfl rfl 34 rfl inf34 (cs := [.t (.v (.int .i64 0)), AV.nl, AV.nl, AV.nl]) rfl (.push qL qN) ?_ | refine A_store rfl rfl 34 _ _ rfl inf34 rfl rfl rfl rfl (Nat.le_of_ble_eq_true rfl) qN qN ?_ | (refine kL 1002 rfl ?_; refine A_cl rfl rfl Try.func31 rfl (c2) ?_) | (refine kL 1034 rfl ?_; refine A_cl rfl rfl Try.func32 rfl (c3) ?_) | refine A_alloc rfl rfl 44 rfl inf44 (cs := [.t (.v (.int .i64 0)), AV.nl, AV.nl]) rfl (.push qL qN) ?_ | refine A_store rfl rfl 44 _ _ rfl inf44 rfl rfl rfl rfl (Nat.le_of_ble_eq_true rfl) qN qN ?_ | (refine kL 1066 rfl ?_; refine A_cl rfl rfl Try.func33 rfl (c4) ?_) | refine A_beq rfl rfl 4 4 _ _ rfl ud4 rfl rfl ?_ | refine A_load_agg rfl rfl 34 _ rfl ud34 rfl inf34 rfl rfl (us' := [_, _, _, _]) rfl rfl ?_ | (refine kL 842 rfl ?_; refine A_cl rfl rfl Try.func26 rfl (cH) ?_) | (refine kL 19 rfl ?_; refine A_pkt rfl rfl _ _ _ rfl rfl rfl ?_) | refine A_load_agg rfl rfl 44 _ rfl ud44 rfl inf44 rfl rfl (us' := [_, _, _]) rfl rfl ?_ | (refine kL 1098 rfl ?_; refine A_cl rfl rfl Try.func34 rfl (cX) ?_) | (refine kL 618 rfl ?_; refine A_cl rfl rfl Try.func19 rfl (awake13_c) ?_) | refine AL.nil ?_)) | with_reducible refine AW.at_region _ ?_ | (with_reducible (first | refine wk0 ?_ | refine wk2 ?_ | refine wk9 ?_ | refine wkb ?_)))
    all_goals first | (exfalso; omega) | (exact Fin.q Try.results7 (.cons (.tmp rfl) .nil) [])
end Go.Proofs.Ytijaphlmomcbfaa
