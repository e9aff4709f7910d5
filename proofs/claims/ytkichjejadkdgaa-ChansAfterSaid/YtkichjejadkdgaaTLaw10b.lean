/- The laws of layer 10: WaitsMoves, WaitsUndoes, WaitsFirst. -/
import Derived.Test.YtkichjejadkdgaaTOnB
namespace Go.Proofs.Ytkichjejadkdgaa
set_option linter.unusedVariables false
set_option linter.unusedSimpArgs false
set_option linter.unnecessarySimpa false
open Go.RowKit
set_option maxHeartbeats 32000000
attribute [local irreducible] AL AW RG Fin C Cd Cio thenQ blockQ retQ
set_option maxRecDepth 100000
attribute [local simp] putW_len cutW_len
theorem okW_s {l : List DWait} (h : sL sWt 48 l) : okW l := ⟨by have := h.1; simp only [reachBytes] at this; omega, fun w hw => by have := (h.2 w hw).2.2.2.1; simp only [reachBytes] at this; omega⟩
set_option maxHeartbeats 8000000 in
theorem awake10_c : Cd Try.prog 41 [] (bo true) [] := by
  have c1 := wput_c v0 2 ⟨false, 1, 4, k8⟩ (okv _ (by decide)) (by decide)
  rw [show putOk v0 2 = true by decide, show putW v0 2 ⟨false, 1, 4, k8⟩ = v1 by decide] at c1
  have c2 := wput_c v1 0 ⟨false, 2, 5, k8⟩ (okv _ (by decide)) (by decide)
  rw [show putOk v1 0 = true by decide, show putW v1 0 ⟨false, 2, 5, k8⟩ = v2 by decide] at c2
  have c3 := first_c v2 2 8 (okv _ (by decide))
  rw [show (fir v2 2 8).th = 2 by decide, show (fir v2 2 8).wh = 0 by decide, show (fir v2 2 8).ok = true by decide] at c3
  have c4 := wcut_c v2 2 (okv _ (by decide))
  rw [show cutOk v2 2 = true by decide, show cutW v2 2 = v3 by decide] at c4
  have c5 := on20_c v2 8 (by decide) (okv _ (by decide))
  rw [show onK v2 8 v2.length = [0, 2] by decide, show isort (tick v2) [0, 2] = [2, 0] by decide] at c5
  have c6 := ints_c [2, 0] [2, 0] (by decide)
  rw [show decide ([(2 : Int), 0] = [2, 0]) = true by decide] at c6
  have c7 := wcount_c v3 (by decide)
  rw [show ((cntW v3 : Nat) : Int) = 1 by decide] at c7
  have c8 := wcount_c v2 (by decide)
  rw [show ((cntW v2 : Nat) : Int) = 2 by decide] at c8
  refine Cd.enter' Try.func41 rfl Try.ntmps41 rfl ?_
  repeat' (first | ((with_reducible refine kAL ?_); (first | (refine kL 1 rfl ?_; (first | refine A_as rfl rfl rfl rfl ?_ | refine A_move rfl rfl _ (.inr rfl) (y := .sl _ _ _) rfl ?_)) | (refine kL 1966 rfl ?_; refine A_build rfl rfl 61 _ rfl ud61 inf61 [(0, 1), (1, 1), (2, 1)] (by kernel_rfl) (zs := [.t (.v (.int .i64 0)), .t (.v (.int .i64 0)), .t (.v (.int .i64 0))]) rfl (.cons rfl (.cons rfl .nil)) (cs := [_, _, _]) rfl ?_) | (refine kL 1551 rfl ?_; refine A_lit rfl rfl 48 1 _ rfl ud48 inf61 (.cons rfl .nil) (els := [[_, _, _]]) rfl (by exact (rfl : _ = List.map tCs [⟨_, _, _⟩])) rfl (Nat.ne_of_beq_eq_false rfl) (Nat.le_of_ble_eq_true rfl) (Nat.le_of_ble_eq_true rfl) (.push qL qN) ?_) | (refine kL 1520 rfl ?_; refine A_make rfl rfl 47 _ _ rfl ud47 inf50 rfl (zs := [(.v (.bool false)), (.v (.int .i64 0)), (.v (.int .i64 0)), .lst []]) rfl rfl rfl _ (by rfl) (by rfl) qB qB (by exact rep_map (f := tWt) (x := w0)) (.push qL qN) ?_) | (refine kL 0 rfl ?_; (first | refine A_mt rfl rfl rfl rfl ?_ | refine A_move rfl rfl _ (.inl rfl) (y := .sl _ _ _) rfl ?_ | refine A_move rfl rfl _ (.inl rfl) (y := .tup _) rfl ?_)) | (refine kL 1614 rfl ?_; refine A_build rfl rfl 50 _ rfl ud50 inf50 [(0, 1), (1, 1), (2, 1), (3, 1)] (by kernel_rfl) (zs := [.t (.v (.bool false)), .t (.v (.int .i64 0)), .t (.v (.int .i64 0)), AV.nl]) rfl (.cons rfl (.cons rfl (.cons rfl .nil))) (cs := [_, _, _, _]) rfl ?_) | (refine kL 1162 rfl ?_; (first | refine A_cl rfl rfl Try.func36 rfl (c1) ?_ | refine A_cl rfl rfl Try.func36 rfl (c2) ?_)) | (refine kL 18 rfl ?_; (first | refine A_extract rfl rfl _ 0 rfl rfl rfl ?_ | refine A_extract rfl rfl _ 1 rfl rfl rfl ?_ | refine A_extract rfl rfl _ 2 rfl rfl rfl ?_)) | (refine kL 1386 rfl ?_; refine A_cl rfl rfl Try.func43 rfl (c3) ?_) | (refine kL 1226 rfl ?_; refine A_cl rfl rfl Try.func38 rfl (c4) ?_) | refine A_pick rfl rfl _ _ _ rfl rfl rfl rfl rfl ?_ | refine A_cmp rfl rfl (c := true) .eql 3 3 _ _ rfl rfl rfl (by exact congrArg some (decide_eq_true (by (try (dsimp only; fail_if_success done)); omega))) ?_ | (refine kL 1450 rfl ?_; refine A_cl rfl rfl Try.func45 rfl (c5) ?_) | (refine kL 1423 rfl ?_; refine A_lit rfl rfl 44 2 _ rfl ud44 inf3 (.cons rfl (.cons rfl .nil)) (els := [[_], [_]]) rfl (by ((try simp only [List.take_zero, List.take_succ_cons, List.drop_zero, List.drop_succ_cons, List.nil_append, List.cons_append, List.append_nil, List.length_cons, List.length_nil, List.set_cons_zero, List.set_cons_succ, List.map_cons, List.map_nil, List.take_nil, List.drop_nil, Nat.zero_add, Nat.add_zero, Nat.reduceAdd, Nat.reduceSub]); rfl)) rfl (Nat.ne_of_beq_eq_false rfl) (Nat.le_of_ble_eq_true rfl) (Nat.le_of_ble_eq_true rfl) (.push qL qN) ?_) | (refine kL 970 rfl ?_; refine A_cl rfl rfl Try.func30 rfl (c6) ?_) | (refine kL 1354 rfl ?_; (first | refine A_cl rfl rfl Try.func42 rfl (c7) ?_ | refine A_cl rfl rfl Try.func42 rfl (c8) ?_)) | refine AL.nil ?_)) | with_reducible refine AW.at_region _ ?_ | (with_reducible (first | refine wk0 ?_ | refine wk2 ?_ | refine wk9 ?_ | refine wkb ?_)))
  all_goals (exact Fin.q Try.results41 (.cons (.tmp rfl) .nil) [])
set_option maxHeartbeats 8000000 in
theorem waitsMoves_c (l : List DWait) (t : Int) (w : DWait) (hl : okW l) (hw : w.cases.length ≤ 5864062014805) :
    Cd Try.prog 5 [.ln (l.map tWt), i64 t, .agg [bo w.on, i64 w.ticket, i64 w.seq, .ln (w.cases.map tCs)]] (bo true) [] := by
  have h1 : (l.map tWt).length = l.length := List.length_map _
  have c1 := wput_c l t w hl hw
  have c2 := wputR_c l t w hl hw
  have c3 := wcut_c l t hl
  have c4 := wcutR_c l t hl
  have e1 := waits_same (putW l t w) (okW_put hl hw)
  have e2 := waits_same (cutW l t) (okW_cut hl)
  have e3 := waits_same l hl
  generalize putOk l t = p at c1 c2
  generalize cutOk l t = r at c3 c4
  cases p <;> cases r
  all_goals
    refine Cd.enter' Try.func5 rfl Try.ntmps5 rfl ?_
    repeat' (first | ((with_reducible refine kAL ?_); (first | refine A_box rfl rfl 50 _ rfl rfl (.push qL qN) ?_ | (refine kL 1 rfl ?_; (first | refine A_as rfl rfl rfl rfl ?_ | refine A_move rfl rfl _ (.inr rfl) (y := .sl _ _ _) rfl ?_)) | (refine kL 0 rfl ?_; (first | refine A_mt rfl rfl rfl rfl ?_ | refine A_move rfl rfl _ (.inl rfl) (y := .sl _ _ _) rfl ?_ | refine A_move rfl rfl _ (.inl rfl) (y := .ln _) rfl ?_ | refine A_move rfl rfl _ (.inl rfl) (y := .tup _) rfl ?_)) | (refine kL 1130 rfl ?_; refine A_cl rfl rfl Try.func35 rfl (wcopyR_c l hl) ?_) | refine A_load_agg rfl rfl 50 _ rfl ud50 rfl inf50 rfl rfl (us' := [_, _, _, _]) rfl rfl ?_ | (refine kL 1162 rfl ?_; refine A_cl rfl rfl Try.func36 rfl (c1) ?_) | (refine kL 18 rfl ?_; (first | refine A_extract rfl rfl _ 0 rfl rfl rfl ?_ | refine A_extract rfl rfl _ 1 rfl rfl rfl ?_)) | (refine kL 1194 rfl ?_; refine A_cl rfl rfl Try.func37 rfl (c2) ?_) | (refine kL 1226 rfl ?_; refine A_cl rfl rfl Try.func38 rfl (c3) ?_) | (refine kL 1258 rfl ?_; refine A_cl rfl rfl Try.func39 rfl (c4) ?_) | (refine kL 1290 rfl ?_; (first | refine A_cl rfl rfl Try.func40 rfl (e1) ?_ | refine A_cl rfl rfl Try.func40 rfl (e2) ?_ | refine A_cl rfl rfl Try.func40 rfl (e3) ?_)) | refine A_beq rfl rfl 4 4 _ _ rfl ud4 rfl rfl ?_ | refine A_pick rfl rfl _ _ _ rfl rfl rfl rfl rfl ?_ | (refine kL 1322 rfl ?_; refine A_cl rfl rfl Try.func41 rfl (awake10_c) ?_) | refine AL.nil ?_)) | with_reducible refine AW.at_region _ ?_ | (with_reducible (first | refine wk0 ?_ | refine wk2 ?_ | refine wk9 ?_ | refine wkb ?_)))
    all_goals (exact Fin.q Try.results5 (.cons (.tmp rfl) .nil) [])
end Go.Proofs.Ytkichjejadkdgaa
