/- The laws of layer 13: the example, CodeBack, CodeCellsBack, CodeShapes. -/
import Derived.Test.YtijaphlmomcbfaaTStartR
import Derived.Test.YtijaphlmomcbfaaTHallS
import Derived.Test.YtijaphlmomcbfaaTReadX
import Derived.Test.YtijaphlmomcbfaaTFrzA
namespace Go.Proofs.Ytijaphlmomcbfaa
set_option linter.unusedVariables false
set_option linter.unusedSimpArgs false
set_option linter.unnecessarySimpa false
open Go.RowKit
set_option maxHeartbeats 32000000
attribute [local irreducible] AL AW RG Fin C Cd Cio thenQ blockQ retQ
set_option maxRecDepth 100000
def c13 : DConf := ⟨3, 1, 1, 1, 1, 1, 0, 1, 1, 1, [1]⟩
def h13 : DHall := ⟨0, [⟨1, 1, true, false, [7]⟩], [⟨false, 0, 0, []⟩], [⟨0, 0, 0, 0⟩]⟩
theorem put13 : putH c13 h13 = [0, 1118209, 7, 0, 0, 0, 0, 0] := by decide +kernel
theorem chk13 : chkC c13 = true := by decide +kernel
theorem size13 : sizeC c13 = 8 := by decide +kernel
theorem fits13 : fitsH c13 h13 = true := by decide +kernel
theorem okH13 : okH h13 := ⟨by decide, by decide, by decide, by decide, by decide⟩
set_option maxHeartbeats 8000000 in
theorem awake13_c : Cd Try.prog 19 [] (bo true) [] := by
  have cS : Cd Try.prog 80 [aCf c13] (.agg [i64 0, .sl 0 0 1, .sl 1 0 1, .sl 2 0 1]) [.row 0 83 5 (([⟨1, 1, true, false, []⟩] : List DChan).map tCh), .row 0 92 4 (([⟨false, 0, 0, []⟩] : List DWait).map tWt), .row 0 107 4 (([⟨0, 0, 0, 0⟩] : List Rst).map tR)] := rstart_c c13 (by decide)
  have cP := putH_c c13 h13 (by decide) okH13
  have cR := readH_c c13 (putH c13 h13) (by decide) (by rw [put13]; unfold okU; decide) (by rw [put13]; decide)
  have hm : mayH c13 (putH c13 h13) = true := by rw [mayH_put, fits13]
  rw [rawH_of hm, hm, rawH_put fits13, put13] at cR
  rw [put13] at cP
  have c1 := check_c c13 (by decide)
  rw [chk13] at c1
  have c2 := size_c c13 (by decide)
  rw [size13] at c2
  have cH := hallS_c h13 okH13 ⟨by decide, by decide⟩
  have x1 : ([0, 1118209, 7, 0, 0, 0, 0, 0] : List Int)[1]? = some 1118209 := rfl
  have x2 : ([0, 1118209, 7, 0, 0, 0, 0, 0] : List Int)[2]? = some 7 := rfl
  have x3 : ([⟨1, 1, true, false, []⟩] : List DChan)[0]? = some ⟨1, 1, true, false, []⟩ := rfl
  refine Cd.enter' Try.func19 rfl Try.ntmps19 rfl ?_
  repeat' (first | ((with_reducible refine kAL ?_); (first | (refine kL 719 rfl ?_; (first | (refine A_lit (d := 6) rfl rfl 22 1 _ rfl ud22 inf3 (.cons rfl .nil) (els := [[_]]) rfl (by exact (rfl : _ = List.map tI [_])) rfl (Nat.ne_of_beq_eq_false rfl) (Nat.le_of_ble_eq_true rfl) (Nat.le_of_ble_eq_true rfl) (.push qL qN) ?_; (try refine AL.wk (Wk.freeze 0 rfl 6 rfl (by exact .all (by rfl)) qN) ?_)) | (refine A_lit (d := 12) rfl rfl 22 1 _ rfl ud22 inf3 (.cons rfl .nil) (els := [[_]]) rfl (by exact (rfl : _ = List.map tI [_])) rfl (Nat.ne_of_beq_eq_false rfl) (Nat.le_of_ble_eq_true rfl) (Nat.le_of_ble_eq_true rfl) (.push qL qN) ?_; (try refine AL.wk (Wk.freeze 6 rfl 12 rfl (by exact .all (by rfl)) qN) ?_)))) | refine A_as rfl rfl rfl rfl ?_ | (refine kL 782 rfl ?_; refine A_build rfl rfl 24 _ rfl ud24 inf24 [(0, 1), (1, 1), (2, 1), (3, 1), (4, 1), (5, 1), (6, 1), (7, 1), (8, 1), (9, 1), (10, 1)] (by kernel_rfl) (zs := [.t (.v (.int .i64 0)), .t (.v (.int .i64 0)), .t (.v (.int .i64 0)), .t (.v (.int .i64 0)), .t (.v (.int .i64 0)), .t (.v (.int .i64 0)), .t (.v (.int .i64 0)), .t (.v (.int .i64 0)), .t (.v (.int .i64 0)), .t (.v (.int .i64 0)), AV.nl]) rfl (.cons rfl (.cons rfl (.cons rfl (.cons rfl (.cons rfl (.cons rfl (.cons rfl (.cons rfl (.cons rfl (.cons rfl .nil)))))))))) (cs := [_, _, _, _, _, _, _, _, _, _, _]) rfl ?_) | refine A_alloc rfl rfl 24 rfl inf24 (cs := [.t (.v (.int .i64 0)), .t (.v (.int .i64 0)), .t (.v (.int .i64 0)), .t (.v (.int .i64 0)), .t (.v (.int .i64 0)), .t (.v (.int .i64 0)), .t (.v (.int .i64 0)), .t (.v (.int .i64 0)), .t (.v (.int .i64 0)), .t (.v (.int .i64 0)), AV.nl]) rfl (.push qL qN) ?_ | refine A_store rfl rfl 24 _ _ rfl inf24 rfl rfl rfl rfl (Nat.le_of_ble_eq_true rfl) qN qN ?_ | refine A_load_agg rfl rfl 24 _ rfl ud24 rfl inf24 rfl rfl (us' := [_, _, _, _, _, _, _, _, _, _, _]) rfl rfl ?_ | (refine kL 2570 rfl ?_; refine A_cl rfl rfl Try.func80 rfl (cS) ?_) | refine A_alloc rfl rfl 34 rfl inf34 (cs := [.t (.v (.int .i64 0)), AV.nl, AV.nl, AV.nl]) rfl (.push qL qN) ?_ | refine A_store rfl rfl 34 _ _ rfl inf34 rfl rfl rfl rfl (Nat.le_of_ble_eq_true rfl) qN qN ?_ | refine A_field rfl rfl 34 _ 1 rfl ud34 rfl inf30 (by decide) 1 rfl rfl ?_ | refine A_load rfl rfl 30 _ rfl ud30 rfl rfl rfl rfl ?_ | (refine kL 966 rfl ?_; refine A_idx_sl rfl rfl 30 _ _ rfl ud30 inf83 rfl rfl (by exact Nat.le_refl _) rfl (by omega) _ (rfl : Int.toNat 0 = 0) (by omega) ?_) | refine A_field rfl rfl 83 _ 4 rfl ud83 rfl inf22 (by decide) 4 rfl rfl ?_ | (refine kL 707 rfl ?_; refine A_store_rp rfl rfl 22 _ _ rfl inf22 (by decide) rfl rfl (by exact map_get (by assumption)) rfl rfl rfl (Nat.le_of_ble_eq_true rfl) (by ((try simp only [List.take_zero, List.take_succ_cons, List.drop_zero, List.drop_succ_cons, List.nil_append, List.cons_append, List.append_nil, List.length_cons, List.length_nil, List.set_cons_zero, List.set_cons_succ, List.map_cons, List.map_nil, List.take_nil, List.drop_nil, Nat.zero_add, Nat.add_zero, Nat.reduceAdd, Nat.reduceSub]); rfl)) qN ?_) | refine A_load_agg rfl rfl 34 _ rfl ud34 rfl inf34 rfl rfl (us' := [_, _, _, _]) rfl rfl ?_ | (refine kL 746 rfl ?_; refine A_cl rfl rfl Try.func23 rfl (cP) ?_) | (refine kL 0 rfl ?_; (first | refine A_mt rfl rfl rfl rfl ?_ | refine A_move rfl rfl _ (.inl rfl) (y := .tup _) rfl ?_)) | (refine kL 810 rfl ?_; refine A_cl rfl rfl Try.func25 rfl (cR) ?_) | (refine kL 18 rfl ?_; (first | refine A_extract rfl rfl _ 0 rfl rfl rfl ?_ | refine A_extract rfl rfl _ 1 rfl rfl rfl ?_)) | (refine kL 426 rfl ?_; refine A_cl rfl rfl Try.func13 rfl (c1) ?_) | refine A_cmp (d := 26) rfl rfl .eql 25 25 _ _ rfl rfl rfl rfl ?_ | (refine kL 554 rfl ?_; refine A_cl rfl rfl Try.func17 rfl (c2) ?_) | (refine kL 105 rfl ?_; (first | refine A_cmp (d := 30) rfl rfl (c := true) .eql 3 3 _ _ rfl rfl rfl (by exact congrArg some (decide_eq_true (by (try (dsimp only; fail_if_success done)); omega))) ?_ | refine A_cmp (d := 35) rfl rfl .eql 3 3 _ _ rfl rfl rfl rfl ?_)) | (refine kL 19 rfl ?_; refine A_pkt rfl rfl _ _ _ rfl rfl rfl ?_) | refine A_len rfl rfl 37 _ rfl ud37 rfl ?_ | (refine kL 1190 rfl ?_; (first | refine A_idx rfl rfl 37 _ _ rfl ud37 inf84 (by decide) (by exact .inr rfl) rfl (by omega) _ (rfl : Int.toNat 1 = 1) (by exact map_get x1) rfl (cs' := [_]) rfl ?_ | refine A_idx rfl rfl 37 _ _ rfl ud37 inf84 (by decide) (by exact .inr rfl) rfl (by omega) _ (rfl : Int.toNat 2 = 2) (by exact map_get x2) rfl (cs' := [_]) rfl ?_)) | refine A_load_lp rfl rfl 84 _ rfl ud84 rfl rfl rfl ?_ | (refine kL 2697 rfl ?_; (first | refine A_cmp (d := 41) rfl rfl (c := true) .eql 84 84 _ _ rfl rfl rfl (by exact congrArg some (decide_eq_true (by (try (dsimp only; fail_if_success done)); omega))) ?_ | refine A_cmp (d := 47) rfl rfl (c := true) .eql 84 84 _ _ rfl rfl rfl (by exact congrArg some (decide_eq_true (by (try (dsimp only; fail_if_success done)); omega))) ?_)) | (refine kL 842 rfl ?_; refine A_cl rfl rfl Try.func26 rfl (cH) ?_) | refine AL.nil ?_)) | with_reducible refine AW.at_region _ ?_ | (with_reducible (first | refine wk0 ?_ | refine wk2 ?_ | refine wk9 ?_ | refine wkb ?_)))
  all_goals first | (exfalso; omega) | (exact Fin.q Try.results19 (.cons (.tmp rfl) .nil) [])
theorem okH_s {h : DHall} (s : sHl h) : okH h := by
  refine ⟨?_, fun x hx => ?_, ?_, fun x hx => ?_, ?_⟩
  · have := s.2.1.1; simp only [reachBytes] at this; omega
  · have := (s.2.1.2 x hx).2.2.2.2.1; simp only [reachBytes] at this; omega
  · have := s.2.2.1.1; simp only [reachBytes] at this; omega
  · have := (s.2.2.1.2 x hx).2.2.2.1; simp only [reachBytes] at this; omega
  · have := s.2.2.2.1; simp only [reachBytes] at this; omega
theorem okHW_s {h : DHall} (s : sHl h) : okW h.waits := ⟨by have := s.2.2.1.1; simp only [reachBytes] at this; omega, fun x hx => by have := (s.2.2.1.2 x hx).2.2.2.1; simp only [reachBytes] at this; omega⟩
theorem cf_s {c : DConf} (s : sCf c) : c.start.length ≤ 1152921504606846976 := by have := s.2.2.2.2.2.2.2.2.2.2.1; simp only [reachBytes] at this; omega
theorem okU_s {l : List Int} (s : sL sU 8 l) : okU l ∧ l.length ≤ 1152921504606846976 := ⟨s.2, by have := s.1; simp only [reachBytes] at this; omega⟩
theorem okH_read (c : DConf) (l : List Int) (h : mayH c l = true) : okH (rawH c l) := by
  unfold mayH at h
  simp only [Bool.and_eq_true, decide_eq_true_eq] at h
  obtain ⟨⟨⟨h0, h1⟩, h2⟩, h3⟩ := h
  have hs := chkC_shaped h0
  have hb := hs.h3 h1
  have hp := mulB (a := c.chans) (b := 1 + c.cap) (x := 8) (y := 9) (by omega) (by omega) (by omega) (by omega)
  have t0 := hs.t0
  have t1 := hs.t1
  rw [sizeC_H h0 h1] at h2
  exact okH_raw c l (by omega) (by omega) (by omega)
theorem putH_b (c : DConf) (h : DHall) : (putH c h).length ≤ 1000 := by
  cases hf : fitsH c h
  · unfold putH; rw [hf]; exact Nat.zero_le _
  · obtain ⟨h0, h1, _⟩ := fitsH_iff.1 hf
    have hs := chkC_shaped h0
    have hb := hs.h3 h1
    have hp := mulB (a := c.chans) (b := 1 + c.cap) (x := 8) (y := 9) (by omega) (by omega) (by omega) (by omega)
    have t1 := hs.t1
    have := putH_len hf
    rw [sizeC_H h0 h1] at this
    omega
theorem putX_b (c : DConf) (x : DCells) : (putX c x).length ≤ 1000 := by
  cases hf : fitsX c x
  · unfold putX; rw [hf]; exact Nat.zero_le _
  · obtain ⟨h0, h1, _⟩ := fitsX_iff.1 hf
    have hs := chkC_shaped h0
    have hb := hs.h1 h1
    have t1 := hs.t1
    have := putX_len hf
    rw [sizeC_X h0 h1] at this
    omega
theorem wpad_U {l : List Int} {n : Nat} (h : okU l) : okU (wpad l n) := by
  intro w hw
  obtain ⟨i, _, rfl⟩ := List.mem_map.1 hw
  rw [List.getD_eq_getElem?_getD]
  cases hx : l[i]? with
  | none => decide
  | some a => exact h a (List.mem_of_getElem? hx)
theorem resW_U (l : List Rst) : okU (l.map wordR) := by
  intro w hw
  obtain ⟨r, _, rfl⟩ := List.mem_map.1 hw
  exact wordR_b r
theorem putH_U (c : DConf) (h : DHall) : okU (putH c h) := by
  cases hf : fitsH c h
  · unfold putH; rw [hf]; intro w hw; cases hw
  · obtain ⟨h0, h1, h2, h3, h4, h5, h7, h8⟩ := fitsH_iff.1 hf
    have hs := chkC_shaped h0
    have hb := hs.h3 h1
    intro w hw
    unfold putH at hw
    rw [if_pos hf] at hw
    rcases List.mem_cons.1 hw with rfl | hw
    · omega
    rcases List.mem_append.1 hw with hw | hw
    · obtain ⟨x, hx, hw⟩ := List.mem_flatMap.1 hw
      obtain ⟨g1, g2, ⟨g3, g4⟩, _⟩ := chanOK_iff.1 (h7 x hx)
      rcases List.mem_cons.1 hw with rfl | hw
      · have := bitI_b x.used; have := bitI_b x.closed; unfold headC; omega
      · exact wpad_U (fun y hy => by have := g4 y hy; omega) w hw
    rcases List.mem_append.1 hw with hw | hw
    · obtain ⟨x, hx, hw⟩ := List.mem_flatMap.1 hw
      obtain ⟨g1, g2, g3, g4⟩ := waitOK_b (h8 x hx)
      rcases List.mem_cons.1 hw with rfl | hw
      · have := bitI_b x.on; unfold headW; omega
      · refine wpad_U (fun y hy => ?_) w hw
        obtain ⟨k, hk, rfl⟩ := List.mem_map.1 hy
        exact wordK_b (g4 k hk)
    · exact resW_U _ w hw
theorem putX_U (c : DConf) (x : DCells) : okU (putX c x) := by
  cases hf : fitsX c x
  · unfold putX; rw [hf]; intro w hw; cases hw
  · obtain ⟨h0, h1, h2, ⟨h3, h4⟩, _⟩ := fitsX_iff.1 hf
    have hs := chkC_shaped h0
    have hb := hs.h1 h1
    intro w hw
    unfold putX at hw
    rw [if_pos hf] at hw
    rcases List.mem_cons.1 hw with rfl | hw
    · omega
    rcases List.mem_append.1 hw with hw | hw
    · exact wpad_U (fun y hy => by have := h4 y hy; omega) w hw
    · exact resW_U _ w hw
set_option maxHeartbeats 8000000 in
theorem codeShapes_c (c : DConf) (hs : c.start.length ≤ 1152921504606846976) : Cd Try.prog 3 [aCf c] (bo true) [] := by
  have c1 := check_c c hs
  have c2 := state_c c hs
  have c3 := size_c c hs
  have r1 := rchk_c c hs
  have r2 := rstate_c c hs
  have r3 := rsize_c c hs
  generalize (if chkC c then (0 : Int) else 1) = a1 at *
  generalize stateC c = a2 at *
  generalize sizeC c = a3 at *
  refine Cd.enter' Try.func3 rfl Try.ntmps3 rfl ?_
  repeat' (first | ((with_reducible refine kAL ?_); (first | refine A_box rfl rfl 24 _ rfl rfl (.push qL qN) ?_ | refine A_as rfl rfl rfl rfl ?_ | refine AL.nil ?_)) | ((with_reducible refine kRG ?_); (first | refine R_load_agg rfl rfl 24 _ rfl ud24 rfl inf24 rfl rfl (us' := [_, _, _, _, _, _, _, _, _, _, _]) rfl rfl ?_ | (refine kR 426 rfl ?_; (refine R_cl rfl rfl Try.func13 rfl (c1) ?_; refine ⟨0, _, _, _, rfl, qU, qU, qZ, ?_⟩)) | (refine kR 458 rfl ?_; (refine R_cl rfl rfl Try.func14 rfl (r1) ?_; refine ⟨0, _, _, _, rfl, qU, qU, qZ, ?_⟩)) | (refine kR 105 rfl ?_; (first | refine R_cmp (d := 7) rfl rfl (c := true) .eql 3 3 _ _ rfl rfl rfl (by exact congrArg some (decide_eq_true (by (try (dsimp only; fail_if_success done)); omega))) ?_ | refine R_cmp (d := 13) rfl rfl (c := true) .eql 3 3 _ _ rfl rfl rfl (by exact congrArg some (decide_eq_true (by (try (dsimp only; fail_if_success done)); omega))) ?_ | refine R_cmp (d := 20) rfl rfl (c := true) .eql 3 3 _ _ rfl rfl rfl (by exact congrArg some (decide_eq_true (by (try (dsimp only; fail_if_success done)); omega))) ?_)) | refine R_mt rfl rfl rfl rfl ?_ | (refine kR 490 rfl ?_; (refine R_cl rfl rfl Try.func15 rfl (c2) ?_; refine ⟨0, _, _, _, rfl, qU, qU, qZ, ?_⟩)) | (refine kR 522 rfl ?_; (refine R_cl rfl rfl Try.func16 rfl (r2) ?_; refine ⟨0, _, _, _, rfl, qU, qU, qZ, ?_⟩)) | (refine kR 19 rfl ?_; refine R_pkt rfl rfl _ _ _ rfl rfl rfl ?_) | (refine kR 554 rfl ?_; (refine R_cl rfl rfl Try.func17 rfl (c3) ?_; refine ⟨0, _, _, _, rfl, qU, qU, qZ, ?_⟩)) | (refine kR 586 rfl ?_; (refine R_cl rfl rfl Try.func18 rfl (r3) ?_; refine ⟨0, _, _, _, rfl, qU, qU, qZ, ?_⟩)) | (refine kR 618 rfl ?_; (refine R_cl rfl rfl Try.func19 rfl (awake13_c) ?_; refine ⟨0, _, _, _, rfl, qU, qU, qZ, ?_⟩)) | refine R_as rfl rfl rfl rfl ?_ | refine RG.nil ⟨by kernel_rfl, ?_⟩)) | (with_reducible (first | refine wk0 ?_ | refine wk2 ?_ | refine wk9 ?_ | refine wkb ?_)) | with_reducible refine AW.at_region _ ?_ | refine AW.at_draw 1 mixed 0 [[], [0], [], [0, 1, 2], [0, 1, 2, 3], [0, 1, 2, 3, 4], [0, 1, 2, 3, 4, 5], [0, 1, 2, 3, 4, 5, 6], [0, 1, 2, 3, 4, 5], [0, 1, 2, 3, 4, 5, 6, 7, 8], [0, 1, 2, 3, 4, 5, 6, 7, 8, 9], [0, 1, 2, 3, 4, 5, 6, 7, 8, 9, 10], [0, 1, 2, 3, 4, 5, 6, 7, 8, 9, 10, 11], [0, 1, 2, 3, 4, 5, 6, 7, 8, 9, 10, 11, 12], [0, 1, 2, 3, 4, 5, 6, 7, 8, 9, 10, 11, 12, 13], [0, 1, 2, 3, 4, 5, 6, 7, 8, 9, 10, 11, 12], [0, 1, 2, 3, 4, 5, 6, 7, 8, 9, 10, 11, 12, 13, 14, 15], [0, 1, 2, 3, 4, 5, 6, 7, 8, 9, 10, 11, 12, 13, 14, 15, 16], [0, 1, 2, 3, 4, 5, 6, 7, 8, 9, 10, 11, 12, 13, 14, 15, 16, 17], [0, 1, 2, 3, 4, 5, 6, 7, 8, 9, 10, 11, 12, 13, 14, 15, 16, 17, 18], [0, 1, 2, 3, 4, 5, 6, 7, 8, 9, 10, 11, 12, 13, 14, 15, 16, 17, 18, 19], [0, 1, 2, 3, 4, 5, 6, 7, 8, 9, 10, 11, 12, 13, 14, 15, 16, 17, 18, 19, 20], [0, 1, 2, 3, 4, 5, 6, 7, 8, 9, 10, 11, 12, 13, 14, 15, 16, 17, 18, 19, 20, 21]] qR ?_)
  all_goals first | (exfalso; omega) | (exact Fin.q Try.results3 (.cons (.tmp rfl) .nil) [])
set_option maxHeartbeats 8000000 in
theorem codeBack_c (c : DConf) (h : DHall) (l : List Int) (hs : c.start.length ≤ 1152921504606846976) (hh : okH h) (hw : okW h.waits) (hU : okU l) (hl : l.length ≤ 1152921504606846976) : Cd Try.prog 5 [aCf c, aHl h, fU l] (bo true) [] := by
  have cR := readH_c c l hs hU hl
  have cP := putH_c c h hs hh
  have cR2 := readH_c c (putH c h) hs (putH_U c h) (by have := putH_b c h; omega)
  have cF := fitsH_c c h hs hh
  have cH := hallS_c h hh hw
  rw [mayH_put] at cR2
  have e2 : fitsH c h = true → readH c (putH c h) = h := fun hf => by rw [rawH_of (by rw [mayH_put, hf]), rawH_put hf]
  cases hm : mayH c l
  · rw [hm, noH_of hm] at cR
    cases hf : fitsH c h
    · rw [hf, noH_of (by rw [mayH_put, hf])] at cR2
      rw [hf] at cF
      generalize putH c h = L at cP cR2
      refine Cd.enter' Try.func5 rfl Try.ntmps5 rfl ?_
      repeat' (first | ((with_reducible refine kAL ?_); (first | refine A_box rfl rfl 24 _ rfl rfl (.push qL qN) ?_ | refine A_box rfl rfl 34 _ rfl rfl (.push qL qN) ?_ | refine A_as rfl rfl rfl rfl ?_ | refine A_load_agg rfl rfl 24 _ rfl ud24 rfl inf24 rfl rfl (us' := [_, _, _, _, _, _, _, _, _, _, _]) rfl rfl ?_ | (refine kL 0 rfl ?_; (first | refine A_mt rfl rfl rfl rfl ?_ | refine A_move rfl rfl _ (.inl rfl) (y := .tup _) rfl ?_)) | (refine kL 810 rfl ?_; refine A_cl rfl rfl Try.func25 rfl (cR) ?_) | (refine kL 18 rfl ?_; (first | refine A_extract rfl rfl _ 0 rfl rfl rfl ?_ | refine A_extract rfl rfl _ 1 rfl rfl rfl ?_)) | refine A_alloc rfl rfl 34 rfl inf34 (cs := [.t (.v (.int .i64 0)), AV.nl, AV.nl, AV.nl]) rfl (.push qL qN) ?_ | refine A_store rfl rfl 34 _ _ rfl inf34 rfl rfl rfl rfl (Nat.le_of_ble_eq_true rfl) qN qN ?_ | refine A_load_agg rfl rfl 34 _ rfl ud34 rfl inf34 rfl rfl (us' := [_, _, _, _]) rfl rfl ?_ | refine A_not rfl rfl _ _ rfl rfl ?_ | (refine kL 19 rfl ?_; (first | refine A_pkt rfl rfl _ _ _ rfl rfl rfl ?_ | refine A_pkf rfl rfl _ _ _ rfl rfl rfl ?_)) | (refine kL 650 rfl ?_; refine A_cl rfl rfl Try.func20 rfl (cF) ?_) | refine A_beq rfl rfl 4 4 _ _ rfl ud4 rfl rfl ?_ | (refine kL 618 rfl ?_; refine A_cl rfl rfl Try.func19 rfl (awake13_c) ?_) | refine AL.nil ?_ | refine AL.skip rfl rfl ?_)) | ((with_reducible refine kRG ?_); (first | refine R_load_agg rfl rfl 24 _ rfl ud24 rfl inf24 rfl rfl (us' := [_, _, _, _, _, _, _, _, _, _, _]) rfl rfl ?_ | refine R_load_agg rfl rfl 34 _ rfl ud34 rfl inf34 rfl rfl (us' := [_, _, _, _]) rfl rfl ?_ | (refine kR 746 rfl ?_; (refine R_cl rfl rfl Try.func23 rfl (cP) ?_; refine ⟨0, _, _, _, rfl, qU, qU, qZ, ?_⟩)) | (refine kR 810 rfl ?_; (refine R_cl rfl rfl Try.func25 rfl (cR2) ?_; refine ⟨0, _, _, _, rfl, qU, qU, qZ, ?_⟩)) | refine R_move rfl rfl _ (.inl rfl) (y := .tup _) rfl ?_ | (refine kR 18 rfl ?_; (first | refine R_extract rfl rfl _ 0 rfl rfl rfl ?_ | refine R_extract rfl rfl _ 1 rfl rfl rfl ?_)) | refine R_alloc (N := 3) rfl rfl 34 rfl inf34 (cs := [.t (.v (.int .i64 0)), AV.nl, AV.nl, AV.nl]) rfl rfl qN ?_ | refine R_store rfl rfl 34 _ _ rfl inf34 rfl rfl rfl rfl (Nat.le_of_ble_eq_true rfl) qN qN ?_ | refine R_as rfl rfl rfl rfl ?_ | refine RG.nil ⟨by kernel_rfl, ?_⟩)) | (with_reducible (first | refine wk0 ?_ | refine wk2 ?_ | refine wk9 ?_ | refine wkb ?_ | refine wkd ?_)) | refine kcf rfl ?_ | with_reducible refine AW.at_region _ ?_ | refine AW.at_draw 4 mixed 1 [[], [], [], [1, 2], [0, 1, 2, 3], [0, 1, 2, 3, 4], [0, 1, 2, 3, 4, 5], [0, 1, 2, 3, 4, 5], [], [0, 1, 2, 3, 4, 5, 6, 8], [0, 1, 2, 3, 4, 5, 6, 7, 8, 9]] qR ?_)
      all_goals first | (exfalso; omega) | (exact Fin.q Try.results5 (.cons (.tmp rfl) .nil) [])
    · rw [hf, e2 hf] at cR2
      rw [hf] at cF
      generalize putH c h = L at cP cR2
      refine Cd.enter' Try.func5 rfl Try.ntmps5 rfl ?_
      repeat' (first | ((with_reducible refine kAL ?_); (first | refine A_box rfl rfl 24 _ rfl rfl (.push qL qN) ?_ | refine A_box rfl rfl 34 _ rfl rfl (.push qL qN) ?_ | refine A_as rfl rfl rfl rfl ?_ | refine A_load_agg rfl rfl 24 _ rfl ud24 rfl inf24 rfl rfl (us' := [_, _, _, _, _, _, _, _, _, _, _]) rfl rfl ?_ | (refine kL 0 rfl ?_; (first | refine A_mt rfl rfl rfl rfl ?_ | refine A_move rfl rfl _ (.inl rfl) (y := .tup _) rfl ?_)) | (refine kL 810 rfl ?_; refine A_cl rfl rfl Try.func25 rfl (cR) ?_) | (refine kL 18 rfl ?_; (first | refine A_extract rfl rfl _ 0 rfl rfl rfl ?_ | refine A_extract rfl rfl _ 1 rfl rfl rfl ?_)) | refine A_alloc rfl rfl 34 rfl inf34 (cs := [.t (.v (.int .i64 0)), AV.nl, AV.nl, AV.nl]) rfl (.push qL qN) ?_ | refine A_store rfl rfl 34 _ _ rfl inf34 rfl rfl rfl rfl (Nat.le_of_ble_eq_true rfl) qN qN ?_ | refine A_load_agg rfl rfl 34 _ rfl ud34 rfl inf34 rfl rfl (us' := [_, _, _, _]) rfl rfl ?_ | refine A_not rfl rfl _ _ rfl rfl ?_ | (refine kL 19 rfl ?_; (first | refine A_pkt rfl rfl _ _ _ rfl rfl rfl ?_ | refine A_pkf rfl rfl _ _ _ rfl rfl rfl ?_)) | (refine kL 650 rfl ?_; refine A_cl rfl rfl Try.func20 rfl (cF) ?_) | refine A_beq rfl rfl 4 4 _ _ rfl ud4 rfl rfl ?_ | (refine kL 842 rfl ?_; refine A_cl rfl rfl Try.func26 rfl (cH) ?_) | (refine kL 618 rfl ?_; refine A_cl rfl rfl Try.func19 rfl (awake13_c) ?_) | refine AL.nil ?_ | refine AL.skip rfl rfl ?_)) | ((with_reducible refine kRG ?_); (first | refine R_load_agg rfl rfl 24 _ rfl ud24 rfl inf24 rfl rfl (us' := [_, _, _, _, _, _, _, _, _, _, _]) rfl rfl ?_ | refine R_load_agg rfl rfl 34 _ rfl ud34 rfl inf34 rfl rfl (us' := [_, _, _, _]) rfl rfl ?_ | (refine kR 746 rfl ?_; (refine R_cl rfl rfl Try.func23 rfl (cP) ?_; refine ⟨0, _, _, _, rfl, qU, qU, qZ, ?_⟩)) | (refine kR 810 rfl ?_; (refine R_cl rfl rfl Try.func25 rfl (cR2) ?_; refine ⟨0, _, _, _, rfl, qU, qU, qZ, ?_⟩)) | refine R_move rfl rfl _ (.inl rfl) (y := .tup _) rfl ?_ | (refine kR 18 rfl ?_; (first | refine R_extract rfl rfl _ 0 rfl rfl rfl ?_ | refine R_extract rfl rfl _ 1 rfl rfl rfl ?_)) | refine R_alloc (N := 3) rfl rfl 34 rfl inf34 (cs := [.t (.v (.int .i64 0)), AV.nl, AV.nl, AV.nl]) rfl rfl qN ?_ | refine R_store rfl rfl 34 _ _ rfl inf34 rfl rfl rfl rfl (Nat.le_of_ble_eq_true rfl) qN qN ?_ | refine R_as rfl rfl rfl rfl ?_ | refine RG.nil ⟨by kernel_rfl, ?_⟩)) | (with_reducible (first | refine wk0 ?_ | refine wk2 ?_ | refine wk9 ?_ | refine wkb ?_ | refine wkd ?_)) | refine kcf rfl ?_ | with_reducible refine AW.at_region _ ?_ | refine AW.at_draw 4 mixed 1 [[], [], [], [1, 2], [0, 1, 2, 3], [0, 1, 2, 3, 4], [0, 1, 2, 3, 4, 5], [0, 1, 2, 3, 4, 5], [], [0, 1, 2, 3, 4, 5, 6, 8], [0, 1, 2, 3, 4, 5, 6, 7, 8, 9]] qR ?_)
      all_goals first | (exfalso; omega) | (exact Fin.q Try.results5 (.cons (.tmp rfl) .nil) [])
  · rw [hm, rawH_of hm] at cR
    have cP0 := putH_c c (rawH c l) hs (okH_read c l hm)
    have e0 : putH c (rawH c l) = l := by
      unfold mayH at hm
      simp only [Bool.and_eq_true, decide_eq_true_eq] at hm
      exact hm.2
    rw [e0] at cP0
    have cW := words_same l hl
    generalize rawH c l = H0 at cR cP0
    cases hf : fitsH c h
    · rw [hf, noH_of (by rw [mayH_put, hf])] at cR2
      rw [hf] at cF
      generalize putH c h = L at cP cR2
      refine Cd.enter' Try.func5 rfl Try.ntmps5 rfl ?_
      repeat' (first | ((with_reducible refine kAL ?_); (first | refine A_box rfl rfl 24 _ rfl rfl (.push qL qN) ?_ | refine A_box rfl rfl 34 _ rfl rfl (.push qL qN) ?_ | refine A_as rfl rfl rfl rfl ?_ | refine A_load_agg rfl rfl 24 _ rfl ud24 rfl inf24 rfl rfl (us' := [_, _, _, _, _, _, _, _, _, _, _]) rfl rfl ?_ | (refine kL 0 rfl ?_; (first | refine A_mt rfl rfl rfl rfl ?_ | refine A_move rfl rfl _ (.inl rfl) (y := .tup _) rfl ?_)) | (refine kL 810 rfl ?_; refine A_cl rfl rfl Try.func25 rfl (cR) ?_) | (refine kL 18 rfl ?_; (first | refine A_extract rfl rfl _ 0 rfl rfl rfl ?_ | refine A_extract rfl rfl _ 1 rfl rfl rfl ?_)) | refine A_alloc rfl rfl 34 rfl inf34 (cs := [.t (.v (.int .i64 0)), AV.nl, AV.nl, AV.nl]) rfl (.push qL qN) ?_ | refine A_store rfl rfl 34 _ _ rfl inf34 rfl rfl rfl rfl (Nat.le_of_ble_eq_true rfl) qN qN ?_ | refine A_load_agg rfl rfl 34 _ rfl ud34 rfl inf34 rfl rfl (us' := [_, _, _, _]) rfl rfl ?_ | (refine kL 746 rfl ?_; refine A_cl rfl rfl Try.func23 rfl (cP0) ?_) | (refine kL 714 rfl ?_; refine A_cl rfl rfl Try.func22 rfl (cW) ?_) | refine A_not rfl rfl _ _ rfl rfl ?_ | (refine kL 19 rfl ?_; refine A_pkt rfl rfl _ _ _ rfl rfl rfl ?_) | (refine kL 650 rfl ?_; refine A_cl rfl rfl Try.func20 rfl (cF) ?_) | refine A_beq rfl rfl 4 4 _ _ rfl ud4 rfl rfl ?_ | (refine kL 618 rfl ?_; refine A_cl rfl rfl Try.func19 rfl (awake13_c) ?_) | refine AL.nil ?_ | refine AL.skip rfl rfl ?_)) | ((with_reducible refine kRG ?_); (first | refine R_load_agg rfl rfl 24 _ rfl ud24 rfl inf24 rfl rfl (us' := [_, _, _, _, _, _, _, _, _, _, _]) rfl rfl ?_ | refine R_load_agg rfl rfl 34 _ rfl ud34 rfl inf34 rfl rfl (us' := [_, _, _, _]) rfl rfl ?_ | (refine kR 746 rfl ?_; (refine R_cl rfl rfl Try.func23 rfl (cP) ?_; refine ⟨0, _, _, _, rfl, qU, qU, qZ, ?_⟩)) | (refine kR 810 rfl ?_; (refine R_cl rfl rfl Try.func25 rfl (cR2) ?_; refine ⟨0, _, _, _, rfl, qU, qU, qZ, ?_⟩)) | refine R_move rfl rfl _ (.inl rfl) (y := .tup _) rfl ?_ | (refine kR 18 rfl ?_; (first | refine R_extract rfl rfl _ 0 rfl rfl rfl ?_ | refine R_extract rfl rfl _ 1 rfl rfl rfl ?_)) | refine R_alloc (N := 3) rfl rfl 34 rfl inf34 (cs := [.t (.v (.int .i64 0)), AV.nl, AV.nl, AV.nl]) rfl rfl qN ?_ | refine R_store rfl rfl 34 _ _ rfl inf34 rfl rfl rfl rfl (Nat.le_of_ble_eq_true rfl) qN qN ?_ | refine R_as rfl rfl rfl rfl ?_ | refine RG.nil ⟨by kernel_rfl, ?_⟩)) | (with_reducible (first | refine wk0 ?_ | refine wk2 ?_ | refine wk9 ?_ | refine wkb ?_ | refine wkd ?_)) | refine kcf rfl ?_ | with_reducible refine AW.at_region _ ?_ | refine AW.at_draw 4 mixed 1 [[], [], [], [1, 2], [0, 1, 2, 3], [0, 1, 2, 3, 4], [0, 1, 2, 3, 4, 5], [0, 1, 2, 3, 4, 5], [], [0, 1, 2, 3, 4, 5, 6, 8], [0, 1, 2, 3, 4, 5, 6, 7, 8, 9]] qR ?_)
      all_goals first | (exfalso; omega) | (exact Fin.q Try.results5 (.cons (.tmp rfl) .nil) [])
    · rw [hf, e2 hf] at cR2
      rw [hf] at cF
      generalize putH c h = L at cP cR2
      refine Cd.enter' Try.func5 rfl Try.ntmps5 rfl ?_
      repeat' (first | ((with_reducible refine kAL ?_); (first | refine A_box rfl rfl 24 _ rfl rfl (.push qL qN) ?_ | refine A_box rfl rfl 34 _ rfl rfl (.push qL qN) ?_ | refine A_as rfl rfl rfl rfl ?_ | refine A_load_agg rfl rfl 24 _ rfl ud24 rfl inf24 rfl rfl (us' := [_, _, _, _, _, _, _, _, _, _, _]) rfl rfl ?_ | (refine kL 0 rfl ?_; (first | refine A_mt rfl rfl rfl rfl ?_ | refine A_move rfl rfl _ (.inl rfl) (y := .tup _) rfl ?_)) | (refine kL 810 rfl ?_; refine A_cl rfl rfl Try.func25 rfl (cR) ?_) | (refine kL 18 rfl ?_; (first | refine A_extract rfl rfl _ 0 rfl rfl rfl ?_ | refine A_extract rfl rfl _ 1 rfl rfl rfl ?_)) | refine A_alloc rfl rfl 34 rfl inf34 (cs := [.t (.v (.int .i64 0)), AV.nl, AV.nl, AV.nl]) rfl (.push qL qN) ?_ | refine A_store rfl rfl 34 _ _ rfl inf34 rfl rfl rfl rfl (Nat.le_of_ble_eq_true rfl) qN qN ?_ | refine A_load_agg rfl rfl 34 _ rfl ud34 rfl inf34 rfl rfl (us' := [_, _, _, _]) rfl rfl ?_ | (refine kL 746 rfl ?_; refine A_cl rfl rfl Try.func23 rfl (cP0) ?_) | (refine kL 714 rfl ?_; refine A_cl rfl rfl Try.func22 rfl (cW) ?_) | refine A_not rfl rfl _ _ rfl rfl ?_ | (refine kL 19 rfl ?_; (first | refine A_pkt rfl rfl _ _ _ rfl rfl rfl ?_ | refine A_pkf rfl rfl _ _ _ rfl rfl rfl ?_)) | (refine kL 650 rfl ?_; refine A_cl rfl rfl Try.func20 rfl (cF) ?_) | refine A_beq rfl rfl 4 4 _ _ rfl ud4 rfl rfl ?_ | (refine kL 842 rfl ?_; refine A_cl rfl rfl Try.func26 rfl (cH) ?_) | (refine kL 618 rfl ?_; refine A_cl rfl rfl Try.func19 rfl (awake13_c) ?_) | refine AL.nil ?_)) | ((with_reducible refine kRG ?_); (first | refine R_load_agg rfl rfl 24 _ rfl ud24 rfl inf24 rfl rfl (us' := [_, _, _, _, _, _, _, _, _, _, _]) rfl rfl ?_ | refine R_load_agg rfl rfl 34 _ rfl ud34 rfl inf34 rfl rfl (us' := [_, _, _, _]) rfl rfl ?_ | (refine kR 746 rfl ?_; (refine R_cl rfl rfl Try.func23 rfl (cP) ?_; refine ⟨0, _, _, _, rfl, qU, qU, qZ, ?_⟩)) | (refine kR 810 rfl ?_; (refine R_cl rfl rfl Try.func25 rfl (cR2) ?_; refine ⟨0, _, _, _, rfl, qU, qU, qZ, ?_⟩)) | refine R_move rfl rfl _ (.inl rfl) (y := .tup _) rfl ?_ | (refine kR 18 rfl ?_; (first | refine R_extract rfl rfl _ 0 rfl rfl rfl ?_ | refine R_extract rfl rfl _ 1 rfl rfl rfl ?_)) | refine R_alloc (N := 3) rfl rfl 34 rfl inf34 (cs := [.t (.v (.int .i64 0)), AV.nl, AV.nl, AV.nl]) rfl rfl qN ?_ | refine R_store rfl rfl 34 _ _ rfl inf34 rfl rfl rfl rfl (Nat.le_of_ble_eq_true rfl) qN qN ?_ | refine R_as rfl rfl rfl rfl ?_ | refine RG.nil ⟨by kernel_rfl, ?_⟩)) | (with_reducible (first | refine wk0 ?_ | refine wk2 ?_ | refine wk9 ?_ | refine wkb ?_ | refine wkd ?_)) | refine kcf rfl ?_ | with_reducible refine AW.at_region _ ?_ | refine AW.at_draw 4 mixed 1 [[], [], [], [1, 2], [0, 1, 2, 3], [0, 1, 2, 3, 4], [0, 1, 2, 3, 4, 5], [0, 1, 2, 3, 4, 5], [], [0, 1, 2, 3, 4, 5, 6, 8], [0, 1, 2, 3, 4, 5, 6, 7, 8, 9]] qR ?_)
      all_goals first | (exfalso; omega) | (exact Fin.q Try.results5 (.cons (.tmp rfl) .nil) [])
set_option maxHeartbeats 8000000 in
theorem codeXBack_c (c : DConf) (x : DCells) (l : List Int) (hs : c.start.length ≤ 1152921504606846976) (k1 : x.list.length ≤ 1152921504606846976) (k2 : x.done.length ≤ 1152921504606846976) (hU : okU l) (hl : l.length ≤ 1152921504606846976) : Cd Try.prog 8 [aCf c, aCl x, fU l] (bo true) [] := by
  have cR := readX_c c l hs hU hl
  have cP := putX_c c x hs k1 k2
  have cR2 := readX_c c (putX c x) hs (putX_U c x) (by have := putX_b c x; omega)
  have cF := fitsX_c c x hs k1 k2
  have cH := cells_c x.cap x.cap x.list x.list x.done x.done k1 k2
  rw [decide_eq_true ⟨rfl, rfl, rfl⟩] at cH
  rw [mayX_put] at cR2
  have e2 : fitsX c x = true → readX c (putX c x) = x := fun hf => by rw [rawX_of (by rw [mayX_put, hf]), rawX_put hf]
  cases hm : mayX c l
  · rw [hm, noX_of hm] at cR
    cases hf : fitsX c x
    · rw [hf, noX_of (by rw [mayX_put, hf])] at cR2
      rw [hf] at cF
      generalize putX c x = L at cP cR2
      refine Cd.enter' Try.func8 rfl Try.ntmps8 rfl ?_
      repeat' (first | ((with_reducible refine kAL ?_); (first | refine A_box rfl rfl 24 _ rfl rfl (.push qL qN) ?_ | refine A_box rfl rfl 44 _ rfl rfl (.push qL qN) ?_ | refine A_as rfl rfl rfl rfl ?_ | refine A_load_agg rfl rfl 24 _ rfl ud24 rfl inf24 rfl rfl (us' := [_, _, _, _, _, _, _, _, _, _, _]) rfl rfl ?_ | (refine kL 0 rfl ?_; (first | refine A_mt rfl rfl rfl rfl ?_ | refine A_move rfl rfl _ (.inl rfl) (y := .tup _) rfl ?_)) | (refine kL 1034 rfl ?_; refine A_cl rfl rfl Try.func32 rfl (cR) ?_) | (refine kL 18 rfl ?_; (first | refine A_extract rfl rfl _ 0 rfl rfl rfl ?_ | refine A_extract rfl rfl _ 1 rfl rfl rfl ?_)) | refine A_alloc rfl rfl 44 rfl inf44 (cs := [.t (.v (.int .i64 0)), AV.nl, AV.nl]) rfl (.push qL qN) ?_ | refine A_store rfl rfl 44 _ _ rfl inf44 rfl rfl rfl rfl (Nat.le_of_ble_eq_true rfl) qN qN ?_ | refine A_load_agg rfl rfl 44 _ rfl ud44 rfl inf44 rfl rfl (us' := [_, _, _]) rfl rfl ?_ | refine A_not rfl rfl _ _ rfl rfl ?_ | (refine kL 19 rfl ?_; (first | refine A_pkt rfl rfl _ _ _ rfl rfl rfl ?_ | refine A_pkf rfl rfl _ _ _ rfl rfl rfl ?_)) | (refine kL 874 rfl ?_; refine A_cl rfl rfl Try.func27 rfl (cF) ?_) | refine A_beq rfl rfl 4 4 _ _ rfl ud4 rfl rfl ?_ | (refine kL 618 rfl ?_; refine A_cl rfl rfl Try.func19 rfl (awake13_c) ?_) | refine AL.nil ?_ | refine AL.skip rfl rfl ?_)) | ((with_reducible refine kRG ?_); (first | refine R_load_agg rfl rfl 24 _ rfl ud24 rfl inf24 rfl rfl (us' := [_, _, _, _, _, _, _, _, _, _, _]) rfl rfl ?_ | refine R_load_agg rfl rfl 44 _ rfl ud44 rfl inf44 rfl rfl (us' := [_, _, _]) rfl rfl ?_ | (refine kR 938 rfl ?_; (refine R_cl rfl rfl Try.func29 rfl (cP) ?_; refine ⟨0, _, _, _, rfl, qU, qU, qZ, ?_⟩)) | (refine kR 1034 rfl ?_; (refine R_cl rfl rfl Try.func32 rfl (cR2) ?_; refine ⟨0, _, _, _, rfl, qU, qU, qZ, ?_⟩)) | refine R_move rfl rfl _ (.inl rfl) (y := .tup _) rfl ?_ | (refine kR 18 rfl ?_; (first | refine R_extract rfl rfl _ 0 rfl rfl rfl ?_ | refine R_extract rfl rfl _ 1 rfl rfl rfl ?_)) | refine R_alloc (N := 3) rfl rfl 44 rfl inf44 (cs := [.t (.v (.int .i64 0)), AV.nl, AV.nl]) rfl rfl qN ?_ | refine R_store rfl rfl 44 _ _ rfl inf44 rfl rfl rfl rfl (Nat.le_of_ble_eq_true rfl) qN qN ?_ | refine R_as rfl rfl rfl rfl ?_ | refine RG.nil ⟨by kernel_rfl, ?_⟩)) | (with_reducible (first | refine wk0 ?_ | refine wk2 ?_ | refine wk9 ?_ | refine wkb ?_ | refine wkd ?_)) | refine kcf rfl ?_ | with_reducible refine AW.at_region _ ?_ | refine AW.at_draw 4 mixed 1 [[], [], [], [1, 2], [0, 1, 2, 3], [0, 1, 2, 3, 4], [0, 1, 2, 3, 4, 5], [0, 1, 2, 3, 4, 5], [], [0, 1, 2, 3, 4, 5, 6, 8], [0, 1, 2, 3, 4, 5, 6, 7, 8, 9]] qR ?_)
      all_goals first | (exfalso; omega) | (exact Fin.q Try.results8 (.cons (.tmp rfl) .nil) [])
    · rw [hf, e2 hf] at cR2
      rw [hf] at cF
      generalize putX c x = L at cP cR2
      refine Cd.enter' Try.func8 rfl Try.ntmps8 rfl ?_
      repeat' (first | ((with_reducible refine kAL ?_); (first | refine A_box rfl rfl 24 _ rfl rfl (.push qL qN) ?_ | refine A_box rfl rfl 44 _ rfl rfl (.push qL qN) ?_ | refine A_as rfl rfl rfl rfl ?_ | refine A_load_agg rfl rfl 24 _ rfl ud24 rfl inf24 rfl rfl (us' := [_, _, _, _, _, _, _, _, _, _, _]) rfl rfl ?_ | (refine kL 0 rfl ?_; (first | refine A_mt rfl rfl rfl rfl ?_ | refine A_move rfl rfl _ (.inl rfl) (y := .tup _) rfl ?_)) | (refine kL 1034 rfl ?_; refine A_cl rfl rfl Try.func32 rfl (cR) ?_) | (refine kL 18 rfl ?_; (first | refine A_extract rfl rfl _ 0 rfl rfl rfl ?_ | refine A_extract rfl rfl _ 1 rfl rfl rfl ?_)) | refine A_alloc rfl rfl 44 rfl inf44 (cs := [.t (.v (.int .i64 0)), AV.nl, AV.nl]) rfl (.push qL qN) ?_ | refine A_store rfl rfl 44 _ _ rfl inf44 rfl rfl rfl rfl (Nat.le_of_ble_eq_true rfl) qN qN ?_ | refine A_load_agg rfl rfl 44 _ rfl ud44 rfl inf44 rfl rfl (us' := [_, _, _]) rfl rfl ?_ | refine A_not rfl rfl _ _ rfl rfl ?_ | (refine kL 19 rfl ?_; (first | refine A_pkt rfl rfl _ _ _ rfl rfl rfl ?_ | refine A_pkf rfl rfl _ _ _ rfl rfl rfl ?_)) | (refine kL 874 rfl ?_; refine A_cl rfl rfl Try.func27 rfl (cF) ?_) | refine A_beq rfl rfl 4 4 _ _ rfl ud4 rfl rfl ?_ | (refine kL 1098 rfl ?_; refine A_cl rfl rfl Try.func34 rfl (cH) ?_) | (refine kL 618 rfl ?_; refine A_cl rfl rfl Try.func19 rfl (awake13_c) ?_) | refine AL.nil ?_ | refine AL.skip rfl rfl ?_)) | ((with_reducible refine kRG ?_); (first | refine R_load_agg rfl rfl 24 _ rfl ud24 rfl inf24 rfl rfl (us' := [_, _, _, _, _, _, _, _, _, _, _]) rfl rfl ?_ | refine R_load_agg rfl rfl 44 _ rfl ud44 rfl inf44 rfl rfl (us' := [_, _, _]) rfl rfl ?_ | (refine kR 938 rfl ?_; (refine R_cl rfl rfl Try.func29 rfl (cP) ?_; refine ⟨0, _, _, _, rfl, qU, qU, qZ, ?_⟩)) | (refine kR 1034 rfl ?_; (refine R_cl rfl rfl Try.func32 rfl (cR2) ?_; refine ⟨0, _, _, _, rfl, qU, qU, qZ, ?_⟩)) | refine R_move rfl rfl _ (.inl rfl) (y := .tup _) rfl ?_ | (refine kR 18 rfl ?_; (first | refine R_extract rfl rfl _ 0 rfl rfl rfl ?_ | refine R_extract rfl rfl _ 1 rfl rfl rfl ?_)) | refine R_alloc (N := 3) rfl rfl 44 rfl inf44 (cs := [.t (.v (.int .i64 0)), AV.nl, AV.nl]) rfl rfl qN ?_ | refine R_store rfl rfl 44 _ _ rfl inf44 rfl rfl rfl rfl (Nat.le_of_ble_eq_true rfl) qN qN ?_ | refine R_as rfl rfl rfl rfl ?_ | refine RG.nil ⟨by kernel_rfl, ?_⟩)) | (with_reducible (first | refine wk0 ?_ | refine wk2 ?_ | refine wk9 ?_ | refine wkb ?_ | refine wkd ?_)) | refine kcf rfl ?_ | with_reducible refine AW.at_region _ ?_ | refine AW.at_draw 4 mixed 1 [[], [], [], [1, 2], [0, 1, 2, 3], [0, 1, 2, 3, 4], [0, 1, 2, 3, 4, 5], [0, 1, 2, 3, 4, 5], [], [0, 1, 2, 3, 4, 5, 6, 8], [0, 1, 2, 3, 4, 5, 6, 7, 8, 9]] qR ?_)
      all_goals first | (exfalso; omega) | (exact Fin.q Try.results8 (.cons (.tmp rfl) .nil) [])
  · rw [hm, rawX_of hm] at cR
    have hm2 := hm
    unfold mayX at hm
    simp only [Bool.and_eq_true, decide_eq_true_eq] at hm
    obtain ⟨⟨⟨h0, h1⟩, h2⟩, e0⟩ := hm
    have hsh := chkC_shaped h0
    have hb := hsh.h1 h1
    have t1 := hsh.t1
    have q1 : (rawX c l).list.length ≤ 1152921504606846976 := by have := rdRow_len (l.drop 1) c.cap.toNat (l.headD 0); show (rdRow _ _ _).length ≤ _; omega
    have q2 : (rawX c l).done.length ≤ 1152921504606846976 := by show (rdRs _ _).length ≤ _; simp [rdRs]; omega
    have cP0 := putX_c c (rawX c l) hs q1 q2
    rw [e0] at cP0
    have cW := words_same l hl
    generalize rawX c l = H0 at cR cP0
    cases hf : fitsX c x
    · rw [hf, noX_of (by rw [mayX_put, hf])] at cR2
      rw [hf] at cF
      generalize putX c x = L at cP cR2
      refine Cd.enter' Try.func8 rfl Try.ntmps8 rfl ?_
      repeat' (first | ((with_reducible refine kAL ?_); (first | refine A_box rfl rfl 24 _ rfl rfl (.push qL qN) ?_ | refine A_box rfl rfl 44 _ rfl rfl (.push qL qN) ?_ | refine A_as rfl rfl rfl rfl ?_ | refine A_load_agg rfl rfl 24 _ rfl ud24 rfl inf24 rfl rfl (us' := [_, _, _, _, _, _, _, _, _, _, _]) rfl rfl ?_ | (refine kL 0 rfl ?_; (first | refine A_mt rfl rfl rfl rfl ?_ | refine A_move rfl rfl _ (.inl rfl) (y := .tup _) rfl ?_)) | (refine kL 1034 rfl ?_; refine A_cl rfl rfl Try.func32 rfl (cR) ?_) | (refine kL 18 rfl ?_; (first | refine A_extract rfl rfl _ 0 rfl rfl rfl ?_ | refine A_extract rfl rfl _ 1 rfl rfl rfl ?_)) | refine A_alloc rfl rfl 44 rfl inf44 (cs := [.t (.v (.int .i64 0)), AV.nl, AV.nl]) rfl (.push qL qN) ?_ | refine A_store rfl rfl 44 _ _ rfl inf44 rfl rfl rfl rfl (Nat.le_of_ble_eq_true rfl) qN qN ?_ | refine A_load_agg rfl rfl 44 _ rfl ud44 rfl inf44 rfl rfl (us' := [_, _, _]) rfl rfl ?_ | (refine kL 938 rfl ?_; refine A_cl rfl rfl Try.func29 rfl (cP0) ?_) | (refine kL 714 rfl ?_; refine A_cl rfl rfl Try.func22 rfl (cW) ?_) | refine A_not rfl rfl _ _ rfl rfl ?_ | (refine kL 19 rfl ?_; refine A_pkt rfl rfl _ _ _ rfl rfl rfl ?_) | (refine kL 874 rfl ?_; refine A_cl rfl rfl Try.func27 rfl (cF) ?_) | refine A_beq rfl rfl 4 4 _ _ rfl ud4 rfl rfl ?_ | (refine kL 618 rfl ?_; refine A_cl rfl rfl Try.func19 rfl (awake13_c) ?_) | refine AL.nil ?_ | refine AL.skip rfl rfl ?_)) | ((with_reducible refine kRG ?_); (first | refine R_load_agg rfl rfl 24 _ rfl ud24 rfl inf24 rfl rfl (us' := [_, _, _, _, _, _, _, _, _, _, _]) rfl rfl ?_ | refine R_load_agg rfl rfl 44 _ rfl ud44 rfl inf44 rfl rfl (us' := [_, _, _]) rfl rfl ?_ | (refine kR 938 rfl ?_; (refine R_cl rfl rfl Try.func29 rfl (cP) ?_; refine ⟨0, _, _, _, rfl, qU, qU, qZ, ?_⟩)) | (refine kR 1034 rfl ?_; (refine R_cl rfl rfl Try.func32 rfl (cR2) ?_; refine ⟨0, _, _, _, rfl, qU, qU, qZ, ?_⟩)) | refine R_move rfl rfl _ (.inl rfl) (y := .tup _) rfl ?_ | (refine kR 18 rfl ?_; (first | refine R_extract rfl rfl _ 0 rfl rfl rfl ?_ | refine R_extract rfl rfl _ 1 rfl rfl rfl ?_)) | refine R_alloc (N := 3) rfl rfl 44 rfl inf44 (cs := [.t (.v (.int .i64 0)), AV.nl, AV.nl]) rfl rfl qN ?_ | refine R_store rfl rfl 44 _ _ rfl inf44 rfl rfl rfl rfl (Nat.le_of_ble_eq_true rfl) qN qN ?_ | refine R_as rfl rfl rfl rfl ?_ | refine RG.nil ⟨by kernel_rfl, ?_⟩)) | (with_reducible (first | refine wk0 ?_ | refine wk2 ?_ | refine wk9 ?_ | refine wkb ?_ | refine wkd ?_)) | refine kcf rfl ?_ | with_reducible refine AW.at_region _ ?_ | refine AW.at_draw 4 mixed 1 [[], [], [], [1, 2], [0, 1, 2, 3], [0, 1, 2, 3, 4], [0, 1, 2, 3, 4, 5], [0, 1, 2, 3, 4, 5], [], [0, 1, 2, 3, 4, 5, 6, 8], [0, 1, 2, 3, 4, 5, 6, 7, 8, 9]] qR ?_)
      all_goals first | (exfalso; omega) | (exact Fin.q Try.results8 (.cons (.tmp rfl) .nil) [])
    · rw [hf, e2 hf] at cR2
      rw [hf] at cF
      generalize putX c x = L at cP cR2
      refine Cd.enter' Try.func8 rfl Try.ntmps8 rfl ?_
      repeat' (first | ((with_reducible refine kAL ?_); (first | refine A_box rfl rfl 24 _ rfl rfl (.push qL qN) ?_ | refine A_box rfl rfl 44 _ rfl rfl (.push qL qN) ?_ | refine A_as rfl rfl rfl rfl ?_ | refine A_load_agg rfl rfl 24 _ rfl ud24 rfl inf24 rfl rfl (us' := [_, _, _, _, _, _, _, _, _, _, _]) rfl rfl ?_ | (refine kL 0 rfl ?_; (first | refine A_mt rfl rfl rfl rfl ?_ | refine A_move rfl rfl _ (.inl rfl) (y := .tup _) rfl ?_)) | (refine kL 1034 rfl ?_; refine A_cl rfl rfl Try.func32 rfl (cR) ?_) | (refine kL 18 rfl ?_; (first | refine A_extract rfl rfl _ 0 rfl rfl rfl ?_ | refine A_extract rfl rfl _ 1 rfl rfl rfl ?_)) | refine A_alloc rfl rfl 44 rfl inf44 (cs := [.t (.v (.int .i64 0)), AV.nl, AV.nl]) rfl (.push qL qN) ?_ | refine A_store rfl rfl 44 _ _ rfl inf44 rfl rfl rfl rfl (Nat.le_of_ble_eq_true rfl) qN qN ?_ | refine A_load_agg rfl rfl 44 _ rfl ud44 rfl inf44 rfl rfl (us' := [_, _, _]) rfl rfl ?_ | (refine kL 938 rfl ?_; refine A_cl rfl rfl Try.func29 rfl (cP0) ?_) | (refine kL 714 rfl ?_; refine A_cl rfl rfl Try.func22 rfl (cW) ?_) | refine A_not rfl rfl _ _ rfl rfl ?_ | (refine kL 19 rfl ?_; (first | refine A_pkt rfl rfl _ _ _ rfl rfl rfl ?_ | refine A_pkf rfl rfl _ _ _ rfl rfl rfl ?_)) | (refine kL 874 rfl ?_; refine A_cl rfl rfl Try.func27 rfl (cF) ?_) | refine A_beq rfl rfl 4 4 _ _ rfl ud4 rfl rfl ?_ | (refine kL 1098 rfl ?_; refine A_cl rfl rfl Try.func34 rfl (cH) ?_) | (refine kL 618 rfl ?_; refine A_cl rfl rfl Try.func19 rfl (awake13_c) ?_) | refine AL.nil ?_)) | ((with_reducible refine kRG ?_); (first | refine R_load_agg rfl rfl 24 _ rfl ud24 rfl inf24 rfl rfl (us' := [_, _, _, _, _, _, _, _, _, _, _]) rfl rfl ?_ | refine R_load_agg rfl rfl 44 _ rfl ud44 rfl inf44 rfl rfl (us' := [_, _, _]) rfl rfl ?_ | (refine kR 938 rfl ?_; (refine R_cl rfl rfl Try.func29 rfl (cP) ?_; refine ⟨0, _, _, _, rfl, qU, qU, qZ, ?_⟩)) | (refine kR 1034 rfl ?_; (refine R_cl rfl rfl Try.func32 rfl (cR2) ?_; refine ⟨0, _, _, _, rfl, qU, qU, qZ, ?_⟩)) | refine R_move rfl rfl _ (.inl rfl) (y := .tup _) rfl ?_ | (refine kR 18 rfl ?_; (first | refine R_extract rfl rfl _ 0 rfl rfl rfl ?_ | refine R_extract rfl rfl _ 1 rfl rfl rfl ?_)) | refine R_alloc (N := 3) rfl rfl 44 rfl inf44 (cs := [.t (.v (.int .i64 0)), AV.nl, AV.nl]) rfl rfl qN ?_ | refine R_store rfl rfl 44 _ _ rfl inf44 rfl rfl rfl rfl (Nat.le_of_ble_eq_true rfl) qN qN ?_ | refine R_as rfl rfl rfl rfl ?_ | refine RG.nil ⟨by kernel_rfl, ?_⟩)) | (with_reducible (first | refine wk0 ?_ | refine wk2 ?_ | refine wk9 ?_ | refine wkb ?_ | refine wkd ?_)) | refine kcf rfl ?_ | with_reducible refine AW.at_region _ ?_ | refine AW.at_draw 4 mixed 1 [[], [], [], [1, 2], [0, 1, 2, 3], [0, 1, 2, 3, 4], [0, 1, 2, 3, 4, 5], [0, 1, 2, 3, 4, 5], [], [0, 1, 2, 3, 4, 5, 6, 8], [0, 1, 2, 3, 4, 5, 6, 7, 8, 9]] qR ?_)
      all_goals first | (exfalso; omega) | (exact Fin.q Try.results8 (.cons (.tmp rfl) .nil) [])
end Go.Proofs.Ytijaphlmomcbfaa
