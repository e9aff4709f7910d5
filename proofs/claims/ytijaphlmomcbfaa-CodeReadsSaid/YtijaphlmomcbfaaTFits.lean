/- Whether halls, and cells, may be: the program's. -/
import Derived.Test.YtijaphlmomcbfaaTCode
namespace Go.Proofs.Ytijaphlmomcbfaa
set_option linter.unusedVariables false
set_option linter.unusedSimpArgs false
set_option linter.unnecessarySimpa false
open Go.RowKit
set_option maxHeartbeats 32000000
attribute [local irreducible] AL AW RG Fin C Cd Cio thenQ blockQ retQ
set_option maxRecDepth 100000
abbrev aCh (x : DChan) : AV := .agg [i64 x.gen, i64 x.cap, bo x.used, bo x.closed, .ln (x.buf.map tI)]
abbrev aWt (w : DWait) : AV := .agg [bo w.on, i64 w.ticket, i64 w.seq, .ln (w.cases.map tCs)]
abbrev aHl (h : DHall) : AV := .agg [i64 h.ticket, .ln (h.chans.map tCh), .ln (h.waits.map tWt), .ln (h.done.map tR)]
abbrev aCl (x : DCells) : AV := .agg [i64 x.cap, .ln (x.list.map tI), .ln (x.done.map tR)]
abbrev aRq (q : DReq) : AV := .agg [i64 q.kind, i64 q.arg, i64 q.value, bo q.dflt, .ln (q.cases.map tCs)]
theorem fitI_in (n M m : Int) (h : M = m + 1) : fitI n M = inI n 0 m := by unfold fitI inI; exact decide_eq_decide.2 (by omega)
theorem values1_c (n : Int) : Cd Try.prog 151 [i64 n] (bo (!inI n 0 4294967295)) [] := by
  have c1 := in_c n 0 4294967295
  generalize inI n 0 4294967295 = b at c1
  refine Cd.enter' Try.func151 rfl Try.ntmps151 rfl ?_
  repeat' (first | ((with_reducible refine kAL ?_); (first | refine A_as rfl rfl rfl rfl ?_ | refine A_mt rfl rfl rfl rfl ?_ | (refine kL 2474 rfl ?_; refine A_cl rfl rfl Try.func77 rfl (c1) ?_) | refine A_not rfl rfl _ _ rfl rfl ?_ | refine AL.nil ?_)) | with_reducible refine AW.at_region _ ?_ | (with_reducible (first | refine wk0 ?_ | refine wk2 ?_ | refine wk9 ?_ | refine wkb ?_)))
  all_goals first | (exfalso; omega) | (exact Fin.q Try.results151 (.cons (.tmp rfl) .nil) [])
theorem done1_c (r : Rst) : Cd Try.prog 142 [aR r] (bo (!goodR r)) [] := by
  have c1 := pgood_c r
  generalize goodR r = b at c1
  refine Cd.enter' Try.func142 rfl Try.ntmps142 rfl ?_
  repeat' (first | ((with_reducible refine kAL ?_); (first | refine A_box rfl rfl 107 _ rfl rfl (.push qL qN) ?_ | refine A_as rfl rfl rfl rfl ?_ | refine A_load_agg rfl rfl 107 _ rfl ud107 rfl inf107 rfl rfl (us' := [_, _, _, _]) rfl rfl ?_ | (refine kL 4586 rfl ?_; refine A_cl rfl rfl Try.func143 rfl (c1) ?_) | refine A_not rfl rfl _ _ rfl rfl ?_ | refine AL.nil ?_)) | with_reducible refine AW.at_region _ ?_ | (with_reducible (first | refine wk0 ?_ | refine wk2 ?_ | refine wk9 ?_ | refine wkb ?_)))
  all_goals first | (exfalso; omega) | (exact Fin.q Try.results142 (.cons (.tmp rfl) .nil) [])
theorem values_c (l : List Int) (m : Int) (hl : l.length ≤ 1152921504606846976) : Cd Try.prog 105 [.ln (l.map tI), i64 m] (bo (valsOK l m)) [] := by
  have cF := conFI_c 151 [] [] (fun n => !inI n 0 4294967295) l (fun n _ => ⟨_, _, [], [], rfl, Try.func151, by kernel_rfl, by kernel_rfl, fun _ => .nil, fun _ => .nil, values1_c n⟩) rfl (fun _ _ => .fnL .nil .nil) hl
  have h1 : (l.map tI).length = l.length := List.length_map _
  unfold valsOK
  rw [List.all_eq_not_any_not]
  generalize (l.any fun n => !inI n 0 4294967295) = b at *
  by_cases e : (l.length : Int) ≤ m
  · rw [decide_eq_true e]
    refine Cd.enter' Try.func105 rfl Try.ntmps105 rfl ?_
    repeat' (first | ((with_reducible refine kAL ?_); (first | refine A_as rfl rfl rfl rfl ?_ | (refine kL 0 rfl ?_; (first | refine A_mt rfl rfl rfl rfl ?_ | refine A_move rfl rfl _ (.inl rfl) (y := .ln _) rfl ?_)) | refine A_len rfl rfl 22 _ rfl ud22 rfl ?_ | refine A_cmp (d := 8) rfl rfl (c := true) .leq 3 3 _ _ rfl rfl rfl (by exact congrArg some (decide_eq_true (by (try (dsimp only; fail_if_success done)); omega))) ?_ | (refine kL 4458 rfl ?_; refine A_cl rfl rfl Try.func139 rfl (cF) ?_) | refine A_not rfl rfl _ _ rfl rfl ?_ | refine A_pick rfl rfl _ _ _ rfl rfl rfl rfl rfl ?_ | refine AL.nil ?_)) | with_reducible refine AW.at_region _ ?_ | (with_reducible (first | refine wk0 ?_ | refine wk2 ?_ | refine wk9 ?_ | refine wkb ?_)))
    all_goals first | (exfalso; omega) | (exact Fin.q Try.results105 (.cons (.tmp rfl) .nil) [])
  · rw [decide_eq_false e]
    refine Cd.enter' Try.func105 rfl Try.ntmps105 rfl ?_
    repeat' (first | ((with_reducible refine kAL ?_); (first | refine A_as rfl rfl rfl rfl ?_ | (refine kL 0 rfl ?_; (first | refine A_mt rfl rfl rfl rfl ?_ | refine A_move rfl rfl _ (.inl rfl) (y := .ln _) rfl ?_)) | refine A_len rfl rfl 22 _ rfl ud22 rfl ?_ | refine A_cmp (d := 8) rfl rfl (c := false) .leq 3 3 _ _ rfl rfl rfl (by exact congrArg some (decide_eq_false (by (try (dsimp only; fail_if_success done)); omega))) ?_ | refine A_pick rfl rfl _ _ _ rfl rfl rfl rfl rfl ?_ | refine AL.nil ?_ | refine AL.skip rfl rfl ?_)) | with_reducible refine AW.at_region _ ?_ | (with_reducible (first | refine wk0 ?_ | refine wk2 ?_ | refine wk9 ?_ | refine wkb ?_)))
    all_goals first | (exfalso; omega) | (exact Fin.q Try.results105 (.cons (.tmp rfl) .nil) [])
theorem done_c (l : List Rst) (m : Int) (hl : l.length ≤ 1152921504606846976) : Cd Try.prog 81 [.ln (l.map tR), i64 m] (bo (resOK l m)) [] := by
  have cF := conFR_c 142 [] [] (fun r => !goodR r) l (fun r _ => ⟨_, _, [], [], rfl, Try.func142, by kernel_rfl, by kernel_rfl, fun _ => .nil, fun _ => .nil, done1_c r⟩) rfl (fun _ _ => .fnL .nil .nil) hl
  have h1 : (l.map tR).length = l.length := List.length_map _
  unfold resOK
  rw [List.all_eq_not_any_not]
  generalize (l.any fun n => !goodR n) = b at *
  by_cases e : (l.length : Int) = m
  · rw [decide_eq_true e]
    refine Cd.enter' Try.func81 rfl Try.ntmps81 rfl ?_
    repeat' (first | ((with_reducible refine kAL ?_); (first | refine A_as rfl rfl rfl rfl ?_ | (refine kL 0 rfl ?_; (first | refine A_mt rfl rfl rfl rfl ?_ | refine A_move rfl rfl _ (.inl rfl) (y := .ln _) rfl ?_)) | refine A_len rfl rfl 32 _ rfl ud32 rfl ?_ | refine A_cmp (d := 8) rfl rfl (c := true) .eql 3 3 _ _ rfl rfl rfl (by exact congrArg some (decide_eq_true (by (try (dsimp only; fail_if_success done)); omega))) ?_ | (refine kL 4522 rfl ?_; refine A_cl rfl rfl Try.func141 rfl (cF) ?_) | refine A_not rfl rfl _ _ rfl rfl ?_ | refine A_pick rfl rfl _ _ _ rfl rfl rfl rfl rfl ?_ | refine AL.nil ?_)) | with_reducible refine AW.at_region _ ?_ | (with_reducible (first | refine wk0 ?_ | refine wk2 ?_ | refine wk9 ?_ | refine wkb ?_)))
    all_goals first | (exfalso; omega) | (exact Fin.q Try.results81 (.cons (.tmp rfl) .nil) [])
  · rw [decide_eq_false e]
    refine Cd.enter' Try.func81 rfl Try.ntmps81 rfl ?_
    repeat' (first | ((with_reducible refine kAL ?_); (first | refine A_as rfl rfl rfl rfl ?_ | (refine kL 0 rfl ?_; (first | refine A_mt rfl rfl rfl rfl ?_ | refine A_move rfl rfl _ (.inl rfl) (y := .ln _) rfl ?_)) | refine A_len rfl rfl 32 _ rfl ud32 rfl ?_ | refine A_cmp (d := 8) rfl rfl (c := false) .eql 3 3 _ _ rfl rfl rfl (by exact congrArg some (decide_eq_false (by (try (dsimp only; fail_if_success done)); omega))) ?_ | refine A_pick rfl rfl _ _ _ rfl rfl rfl rfl rfl ?_ | refine AL.nil ?_ | refine AL.skip rfl rfl ?_)) | with_reducible refine AW.at_region _ ?_ | (with_reducible (first | refine wk0 ?_ | refine wk2 ?_ | refine wk9 ?_ | refine wkb ?_)))
    all_goals first | (exfalso; omega) | (exact Fin.q Try.results81 (.cons (.tmp rfl) .nil) [])
set_option maxHeartbeats 4000000 in
theorem channel_c (c : DConf) (x : DChan) (hl : x.buf.length ≤ 1152921504606846976) : Cd Try.prog 84 [aCf c, aCh x] (bo (chanOK c.cap x)) [] := by
  have c1 := in_c x.gen 0 4095
  have c2 := in_c x.cap 0 c.cap
  have c3 := values_c x.buf x.cap hl
  unfold chanOK
  generalize inI x.gen 0 4095 = b1 at *
  generalize inI x.cap 0 c.cap = b2 at *
  generalize valsOK x.buf x.cap = b3 at *
  obtain ⟨g, k, u, cl, buf⟩ := x
  dsimp only at c1 c2 c3 ⊢
  by_cases e : k = 0
  all_goals
    cases u <;> cases cl
    all_goals
      refine Cd.enter' Try.func84 rfl Try.ntmps84 rfl ?_
      repeat' (first | ((with_reducible refine kAL ?_); (first | refine A_box rfl rfl 24 _ rfl rfl (.push qL qN) ?_ | refine A_box rfl rfl 83 _ rfl rfl (.push qL qN) ?_ | refine A_as rfl rfl rfl rfl ?_ | (refine kL 2660 rfl ?_; (first | refine A_field rfl rfl 83 _ 0 rfl ud83 rfl inf3 (by decide) 0 rfl rfl ?_ | refine A_field rfl rfl 83 _ 1 rfl ud83 rfl inf3 (by decide) 1 rfl rfl ?_ | refine A_field rfl rfl 83 _ 4 rfl ud83 rfl inf22 (by decide) 4 rfl rfl ?_ | refine A_field rfl rfl 83 _ 2 rfl ud83 rfl inf4 (by decide) 2 rfl rfl ?_ | refine A_field rfl rfl 83 _ 3 rfl ud83 rfl inf4 (by decide) 3 rfl rfl ?_)) | refine A_load rfl rfl 3 _ rfl ud3 rfl rfl rfl rfl ?_ | (refine kL 2474 rfl ?_; (first | refine A_cl rfl rfl Try.func77 rfl (c1) ?_ | refine A_cl rfl rfl Try.func77 rfl (c2) ?_)) | refine A_not rfl rfl _ _ rfl rfl ?_ | refine A_mt rfl rfl rfl rfl ?_ | refine A_field rfl rfl 24 _ 3 rfl ud24 rfl inf3 (by decide) 3 rfl rfl ?_ | refine A_pick rfl rfl _ _ _ rfl rfl rfl rfl rfl ?_ | refine A_load rfl rfl 22 _ rfl ud22 rfl rfl rfl rfl ?_ | (refine kL 3370 rfl ?_; refine A_cl rfl rfl Try.func105 rfl (c3) ?_) | refine A_load rfl rfl 4 _ rfl ud4 rfl rfl rfl rfl ?_ | (refine kL 105 rfl ?_; (first | refine A_cmp (d := 34) rfl rfl (c := true) .eql 3 3 _ _ rfl rfl rfl (by exact congrArg some (decide_eq_true (by (try (dsimp only; fail_if_success done)); omega))) ?_ | refine A_cmp (d := 34) rfl rfl (c := false) .eql 3 3 _ _ rfl rfl rfl (by exact congrArg some (decide_eq_false (by (try (dsimp only; fail_if_success done)); omega))) ?_)) | refine AL.nil ?_ | refine AL.skip rfl rfl ?_ | (refine AL.split 9 rfl (fun hb => ?_) (fun hb => ?_) <;> (try simp only [decide_eq_true_eq, decide_eq_false_iff_not, Bool.not_eq_true', Bool.not_eq_false'] at hb) <;> (first | refine AL.skip rfl rfl ?_ | refine AL.need rfl ?_)) | (refine AL.split 17 rfl (fun hb => ?_) (fun hb => ?_) <;> (try simp only [decide_eq_true_eq, decide_eq_false_iff_not, Bool.not_eq_true', Bool.not_eq_false'] at hb) <;> (first | refine AL.skip rfl rfl ?_ | refine AL.need rfl ?_)))) | with_reducible refine AW.at_region _ ?_ | (with_reducible (first | refine wk0 ?_ | refine wk2 ?_ | refine wk3 ?_ | refine wk9 ?_ | refine wkb ?_ | refine wkd ?_)) | refine kct rfl ?_ | refine kcb rfl (fun hc => ?_) (fun hc => ?_))
      all_goals first | (exfalso; omega) | (refine Fin.q Try.results84 (.cons (.tmp rfl) .nil) [] (hr := (.t ?_)))
      all_goals first | (simp [*]; done) | skip
theorem pmay_c (k : DCase) : Cd Try.prog 165 [.agg [i64 k.dir, i64 k.handle, i64 k.value]] (bo (caseOK k)) [] := by
  have c1 := pfits_c k.handle 16 65536 (by decide) (by decide)
  have c2 := pfits_c k.value 32 4294967296 (by decide) (by decide)
  rw [fitI_in _ _ 65535 (by decide)] at c1
  rw [fitI_in _ _ 4294967295 (by decide)] at c2
  unfold caseOK
  generalize inI k.handle 0 65535 = b1 at *
  generalize inI k.value 0 4294967295 = b2 at *
  by_cases e1 : k.dir = 1 <;> by_cases e2 : k.dir = 2
  all_goals
    cases b1 <;> cases b2
    all_goals
      refine Cd.enter' Try.func165 rfl Try.ntmps165 rfl ?_
      repeat' (first | ((with_reducible refine kAL ?_); (first | refine A_box rfl rfl 105 _ rfl rfl (.push qL qN) ?_ | refine A_as rfl rfl rfl rfl ?_ | (refine kL 3364 rfl ?_; (first | refine A_field rfl rfl 105 _ 0 rfl ud105 rfl inf3 (by decide) 0 rfl rfl ?_ | refine A_field rfl rfl 105 _ 1 rfl ud105 rfl inf3 (by decide) 1 rfl rfl ?_ | refine A_field rfl rfl 105 _ 2 rfl ud105 rfl inf3 (by decide) 2 rfl rfl ?_)) | refine A_load rfl rfl 3 _ rfl ud3 rfl rfl rfl rfl ?_ | (refine kL 105 rfl ?_; (first | refine A_cmp (d := 5) rfl rfl (c := true) .eql 3 3 _ _ rfl rfl rfl (by exact congrArg some (decide_eq_true (by (try (dsimp only; fail_if_success done)); omega))) ?_ | refine A_cmp (d := 5) rfl rfl (c := false) .eql 3 3 _ _ rfl rfl rfl (by exact congrArg some (decide_eq_false (by (try (dsimp only; fail_if_success done)); omega))) ?_ | refine A_cmp (d := 9) rfl rfl (c := true) .eql 3 3 _ _ rfl rfl rfl (by exact congrArg some (decide_eq_true (by (try (dsimp only; fail_if_success done)); omega))) ?_ | refine A_cmp (d := 9) rfl rfl (c := false) .eql 3 3 _ _ rfl rfl rfl (by exact congrArg some (decide_eq_false (by (try (dsimp only; fail_if_success done)); omega))) ?_)) | refine A_mt rfl rfl rfl rfl ?_ | refine A_pick rfl rfl _ _ _ rfl rfl rfl rfl rfl ?_ | (refine kL 4746 rfl ?_; (first | refine A_cl rfl rfl Try.func148 rfl (c1) ?_ | refine A_cl rfl rfl Try.func148 rfl (c2) ?_)) | refine AL.nil ?_ | refine AL.skip rfl rfl ?_)) | with_reducible refine AW.at_region _ ?_ | (with_reducible (first | refine wk0 ?_ | refine wk2 ?_ | refine wk9 ?_ | refine wkb ?_)))
      all_goals first | (exfalso; omega) | (refine Fin.q Try.results165 (.cons (.tmp rfl) .nil) [] (hr := (.t ?_)))
      all_goals first | (simp [*]; done) | skip
def fitQ (q : DReq) : Bool := inI q.kind 1 9 && inI q.arg 0 65535 && inI q.value 0 4294967295 && decide (q.cases.length ≤ 3) && q.cases.all caseOK
theorem fitQ_sel (l : List DCase) : fitQ ⟨3, 0, 0, false, l⟩ = (decide (l.length ≤ 3) && l.all caseOK) := by unfold fitQ; rfl
set_option maxHeartbeats 8000000 in
theorem pFits_c (q : DReq) (hl : q.cases.length ≤ 1152921504606846976) : Cd Try.prog 146 [aRq q] (bo (fitQ q)) [] := by
  have c1 := pfits_c q.arg 16 65536 (by decide) (by decide)
  have c2 := pfits_c q.value 32 4294967296 (by decide) (by decide)
  rw [fitI_in _ _ 65535 (by decide)] at c1
  rw [fitI_in _ _ 4294967295 (by decide)] at c2
  have h1 : (q.cases.map tCs).length = q.cases.length := List.length_map _
  obtain ⟨k, a, v, df, l⟩ := q
  unfold fitQ
  dsimp only at *
  generalize inI a 0 65535 = b1 at *
  generalize inI v 0 4294967295 = b2 at *
  by_cases k1 : 1 ≤ k ∧ k ≤ 9
  · rw [show inI k 1 9 = true from decide_eq_true k1]
    by_cases k2 : l.length ≤ 3
    · rw [decide_eq_true k2]
      cases b1
      · refine Cd.enter' Try.func146 rfl Try.ntmps146 rfl ?_
        repeat' (first | ((with_reducible refine kAL ?_); (first | refine A_box rfl rfl 97 _ rfl rfl (.push qL qN) ?_ | refine A_as rfl rfl rfl rfl ?_ | (refine kL 3108 rfl ?_; (first | refine A_field rfl rfl 97 _ 0 rfl ud97 rfl inf3 (by decide) 0 rfl rfl ?_ | refine A_field rfl rfl 97 _ 1 rfl ud97 rfl inf3 (by decide) 1 rfl rfl ?_)) | refine A_load rfl rfl 3 _ rfl ud3 rfl rfl rfl rfl ?_ | (refine kL 105 rfl ?_; (first | refine A_cmp (d := 7) rfl rfl (c := false) .lss 3 3 _ _ rfl rfl rfl (by exact congrArg some (decide_eq_false (by (try (dsimp only; fail_if_success done)); omega))) ?_ | refine A_cmp (d := 11) rfl rfl (c := false) .gtr 3 3 _ _ rfl rfl rfl (by exact congrArg some (decide_eq_false (by (try (dsimp only; fail_if_success done)); omega))) ?_)) | refine A_mt rfl rfl rfl rfl ?_ | refine A_pick rfl rfl _ _ _ rfl rfl rfl rfl rfl ?_ | (refine kL 4746 rfl ?_; refine A_cl rfl rfl Try.func148 rfl (c1) ?_) | refine A_not rfl rfl _ _ rfl rfl ?_ | refine AL.nil ?_ | refine AL.skip rfl rfl ?_)) | with_reducible refine AW.at_region _ ?_ | (with_reducible (first | refine wk0 ?_ | refine wk2 ?_ | refine wk3 ?_ | refine wk9 ?_ | refine wkb ?_)) | refine kct rfl ?_)
        all_goals first | (exfalso; omega) | (exact Fin.q Try.results146 (.cons (.tmp rfl) .nil) [])
      · cases b2
        · refine Cd.enter' Try.func146 rfl Try.ntmps146 rfl ?_
          repeat' (first | ((with_reducible refine kAL ?_); (first | refine A_box rfl rfl 97 _ rfl rfl (.push qL qN) ?_ | refine A_as rfl rfl rfl rfl ?_ | (refine kL 3108 rfl ?_; (first | refine A_field rfl rfl 97 _ 0 rfl ud97 rfl inf3 (by decide) 0 rfl rfl ?_ | refine A_field rfl rfl 97 _ 1 rfl ud97 rfl inf3 (by decide) 1 rfl rfl ?_ | refine A_field rfl rfl 97 _ 2 rfl ud97 rfl inf3 (by decide) 2 rfl rfl ?_)) | refine A_load rfl rfl 3 _ rfl ud3 rfl rfl rfl rfl ?_ | (refine kL 105 rfl ?_; (first | refine A_cmp (d := 7) rfl rfl (c := false) .lss 3 3 _ _ rfl rfl rfl (by exact congrArg some (decide_eq_false (by (try (dsimp only; fail_if_success done)); omega))) ?_ | refine A_cmp (d := 11) rfl rfl (c := false) .gtr 3 3 _ _ rfl rfl rfl (by exact congrArg some (decide_eq_false (by (try (dsimp only; fail_if_success done)); omega))) ?_)) | refine A_mt rfl rfl rfl rfl ?_ | refine A_pick rfl rfl _ _ _ rfl rfl rfl rfl rfl ?_ | (refine kL 4746 rfl ?_; (first | refine A_cl rfl rfl Try.func148 rfl (c1) ?_ | refine A_cl rfl rfl Try.func148 rfl (c2) ?_)) | refine A_not rfl rfl _ _ rfl rfl ?_ | refine AL.nil ?_ | refine AL.skip rfl rfl ?_)) | with_reducible refine AW.at_region _ ?_ | (with_reducible (first | refine wk0 ?_ | refine wk2 ?_ | refine wk3 ?_ | refine wk9 ?_ | refine wkb ?_)) | refine kct rfl ?_)
          all_goals first | (exfalso; omega) | (exact Fin.q Try.results146 (.cons (.tmp rfl) .nil) [])
        · simp only [Bool.true_and]
          refine Cd.enter' Try.func146 rfl Try.ntmps146 rfl ?_
          repeat' (first | ((with_reducible refine kAL ?_); (first | refine A_box rfl rfl 97 _ rfl rfl (.push qL qN) ?_ | refine A_as rfl rfl rfl rfl ?_ | (refine kL 3108 rfl ?_; (first | refine A_field rfl rfl 97 _ 0 rfl ud97 rfl inf3 (by decide) 0 rfl rfl ?_ | refine A_field rfl rfl 97 _ 1 rfl ud97 rfl inf3 (by decide) 1 rfl rfl ?_ | refine A_field rfl rfl 97 _ 2 rfl ud97 rfl inf3 (by decide) 2 rfl rfl ?_ | refine A_field rfl rfl 97 _ 4 rfl ud97 rfl inf90 (by decide) 4 rfl rfl ?_)) | refine A_load rfl rfl 3 _ rfl ud3 rfl rfl rfl rfl ?_ | (refine kL 105 rfl ?_; (first | refine A_cmp (d := 7) rfl rfl (c := false) .lss 3 3 _ _ rfl rfl rfl (by exact congrArg some (decide_eq_false (by (try (dsimp only; fail_if_success done)); omega))) ?_ | refine A_cmp (d := 11) rfl rfl (c := false) .gtr 3 3 _ _ rfl rfl rfl (by exact congrArg some (decide_eq_false (by (try (dsimp only; fail_if_success done)); omega))) ?_ | refine A_cmp (d := 29) rfl rfl (c := false) .gtr 3 3 _ _ rfl rfl rfl (by exact congrArg some (decide_eq_false (by (try (dsimp only; fail_if_success done)); omega))) ?_)) | refine A_mt rfl rfl rfl rfl ?_ | refine A_pick rfl rfl _ _ _ rfl rfl rfl rfl rfl ?_ | (refine kL 4746 rfl ?_; (first | refine A_cl rfl rfl Try.func148 rfl (c1) ?_ | refine A_cl rfl rfl Try.func148 rfl (c2) ?_)) | refine A_not rfl rfl _ _ rfl rfl ?_ | refine A_load rfl rfl 90 _ rfl ud90 rfl rfl rfl rfl ?_ | refine A_len rfl rfl 90 _ rfl ud90 rfl ?_ | refine AL.nil ?_)) | with_reducible refine AW.at_region _ ?_ | (with_reducible (first | refine wk0 ?_ | refine wk1 ?_ | refine wk2 ?_ | refine wkd ?_)) | refine kcf rfl ?_)
          all_goals first | (exfalso; omega) | skip
          refine AW.loopP (fun (i : Nat) => i ≤ l.length ∧ ∀ j, j < i → ∀ a, l[j]? = some a → caseOK a = true) (fun (i : Nat) => (pu (pu (pu (fun _ => .any) 32 (.ln (l.map tCs))) 33 (i64 (l.map tCs).length)) 34 (i64 i))) (fun (i : Nat) => []) (fun (i : Nat) => l.length - i) (0) ?_ ?_ ?_
          · exact ⟨Nat.zero_le _, fun j hj => by omega⟩
          · exact Wk.cq 0
          · rintro i ⟨h2, h3⟩
            by_cases hi : i < l.length
            · obtain ⟨a, ha⟩ : ∃ a, l[i]? = some a := ⟨_, List.getElem?_eq_getElem hi⟩
              have cA := pmay_c a
              cases hv : caseOK a
              · rw [hv] at cA
                have : l.all caseOK = false := List.all_eq_false.2 ⟨a, List.mem_of_getElem? ha, by rw [hv]; decide⟩
                rw [this]
                repeat' (first | ((with_reducible refine kAL ?_); (first | refine A_as rfl rfl rfl rfl ?_ | refine A_cmp (d := 35) rfl rfl (c := true) .lss 3 3 _ _ rfl rfl rfl (by exact congrArg some (decide_eq_true (by (try (dsimp only; fail_if_success done)); omega))) ?_ | refine A_not rfl rfl _ _ rfl rfl ?_ | (refine kL 2886 rfl ?_; refine A_idx rfl rfl 90 _ _ rfl ud90 inf105 (by decide) (by exact .inl rfl) rfl (by omega) _ (by with_reducible exact Int.toNat_natCast _) (by exact map_get (by assumption)) rfl (cs' := [_, _, _]) rfl ?_) | (refine kL 3362 rfl ?_; (first | refine A_load_agg rfl rfl 105 _ rfl ud105 rfl inf105 rfl rfl (us' := [_, _, _]) rfl rfl ?_ | refine A_load_lp_agg rfl rfl 105 _ rfl ud105 rfl inf105 rfl (us' := [_, _, _]) rfl rfl ?_)) | refine A_alloc rfl rfl 105 rfl inf105 (cs := [.t (.v (.int .i64 0)), .t (.v (.int .i64 0)), .t (.v (.int .i64 0))]) rfl (.push qL qN) ?_ | refine A_store rfl rfl 105 _ _ rfl inf105 rfl rfl rfl rfl (Nat.le_of_ble_eq_true rfl) qN qN ?_ | (refine kL 5290 rfl ?_; refine A_cl rfl rfl Try.func165 rfl (cA) ?_) | refine AL.nil ?_)) | with_reducible refine AW.at_region _ ?_ | (with_reducible (first | refine wk0 ?_ | refine wk1 ?_ | refine wk2 ?_ | refine wk3 ?_ | refine wk6 ?_ | refine wk9 ?_ | refine wkb ?_ | refine wkd ?_)) | refine kct rfl ?_)
                all_goals first | (exfalso; omega) | (exact Fin.q Try.results146 (.cons (.tmp rfl) .nil) [])
              · rw [hv] at cA
                repeat' (first | ((with_reducible refine kAL ?_); (first | (refine kL 105 rfl ?_; (first | refine A_cmp (d := 35) rfl rfl (c := true) .lss 3 3 _ _ rfl rfl rfl (by exact congrArg some (decide_eq_true (by (try (dsimp only; fail_if_success done)); omega))) ?_ | refine A_add rfl rfl 3 3 _ _ rfl rfl rfl (by exact wi) ?_)) | refine A_mt rfl rfl rfl rfl ?_ | refine A_not rfl rfl _ _ rfl rfl ?_ | (refine kL 2886 rfl ?_; refine A_idx rfl rfl 90 _ _ rfl ud90 inf105 (by decide) (by exact .inl rfl) rfl (by omega) _ (by with_reducible exact Int.toNat_natCast _) (by exact map_get (by assumption)) rfl (cs' := [_, _, _]) rfl ?_) | (refine kL 3362 rfl ?_; (first | refine A_load_agg rfl rfl 105 _ rfl ud105 rfl inf105 rfl rfl (us' := [_, _, _]) rfl rfl ?_ | refine A_load_lp_agg rfl rfl 105 _ rfl ud105 rfl inf105 rfl (us' := [_, _, _]) rfl rfl ?_)) | refine A_alloc rfl rfl 105 rfl inf105 (cs := [.t (.v (.int .i64 0)), .t (.v (.int .i64 0)), .t (.v (.int .i64 0))]) rfl (.push qL qN) ?_ | refine A_store rfl rfl 105 _ _ rfl inf105 rfl rfl rfl rfl (Nat.le_of_ble_eq_true rfl) qN qN ?_ | (refine kL 5290 rfl ?_; refine A_cl rfl rfl Try.func165 rfl (cA) ?_) | refine AL.nil ?_)) | with_reducible refine AW.at_region _ ?_ | (with_reducible (first | refine wk0 ?_ | refine wk1 ?_ | refine wk2 ?_ | refine wk5 ?_ | refine wkd ?_)) | refine kct rfl ?_ | refine kcf rfl ?_)
                all_goals first | (exfalso; omega) | skip
                refine ⟨i + 1, ⟨by omega, fun j hj b hb => ?_⟩, by omega, ?_⟩
                · by_cases e : j = i
                  · subst e; rw [ha] at hb; cases hb; exact hv
                  · exact h3 j (by omega) b hb
                · exact Wk.cq 0
            · have : l.all caseOK = true := List.all_eq_true.2 fun a ha => by
                obtain ⟨j, hj⟩ := List.getElem?_of_mem ha
                exact h3 j (by have := get_lt hj; omega) a hj
              rw [this]
              repeat' (first | ((with_reducible refine kAL ?_); (first | refine A_as rfl rfl rfl rfl ?_ | refine A_cmp (d := 35) rfl rfl (c := false) .lss 3 3 _ _ rfl rfl rfl (by exact congrArg some (decide_eq_false (by (try (dsimp only; fail_if_success done)); omega))) ?_ | refine AL.nil ?_)) | with_reducible refine AW.at_region _ ?_ | (with_reducible (first | refine wk0 ?_ | refine wk2 ?_ | refine wk4 ?_ | refine wk7 ?_ | refine wk9 ?_ | refine wkb ?_ | refine wkc ?_)) | refine kcf rfl ?_)
              all_goals first | (exfalso; omega) | (exact Fin.q Try.results146 (.cons (.tmp rfl) .nil) [])
    · rw [decide_eq_false k2, Bool.and_false, Bool.false_and]
      cases b1 <;> cases b2
      all_goals
        refine Cd.enter' Try.func146 rfl Try.ntmps146 rfl ?_
        repeat' (first | ((with_reducible refine kAL ?_); (first | refine A_box rfl rfl 97 _ rfl rfl (.push qL qN) ?_ | refine A_as rfl rfl rfl rfl ?_ | (refine kL 3108 rfl ?_; (first | refine A_field rfl rfl 97 _ 0 rfl ud97 rfl inf3 (by decide) 0 rfl rfl ?_ | refine A_field rfl rfl 97 _ 1 rfl ud97 rfl inf3 (by decide) 1 rfl rfl ?_ | refine A_field rfl rfl 97 _ 2 rfl ud97 rfl inf3 (by decide) 2 rfl rfl ?_ | refine A_field rfl rfl 97 _ 4 rfl ud97 rfl inf90 (by decide) 4 rfl rfl ?_)) | refine A_load rfl rfl 3 _ rfl ud3 rfl rfl rfl rfl ?_ | (refine kL 105 rfl ?_; (first | refine A_cmp (d := 7) rfl rfl (c := false) .lss 3 3 _ _ rfl rfl rfl (by exact congrArg some (decide_eq_false (by (try (dsimp only; fail_if_success done)); omega))) ?_ | refine A_cmp (d := 11) rfl rfl (c := false) .gtr 3 3 _ _ rfl rfl rfl (by exact congrArg some (decide_eq_false (by (try (dsimp only; fail_if_success done)); omega))) ?_ | refine A_cmp (d := 29) rfl rfl (c := true) .gtr 3 3 _ _ rfl rfl rfl (by exact congrArg some (decide_eq_true (by (try (dsimp only; fail_if_success done)); omega))) ?_)) | refine A_mt rfl rfl rfl rfl ?_ | refine A_pick rfl rfl _ _ _ rfl rfl rfl rfl rfl ?_ | (refine kL 4746 rfl ?_; (first | refine A_cl rfl rfl Try.func148 rfl (c1) ?_ | refine A_cl rfl rfl Try.func148 rfl (c2) ?_)) | refine A_not rfl rfl _ _ rfl rfl ?_ | refine A_load rfl rfl 90 _ rfl ud90 rfl rfl rfl rfl ?_ | refine A_len rfl rfl 90 _ rfl ud90 rfl ?_ | refine AL.nil ?_ | refine AL.skip rfl rfl ?_)) | with_reducible refine AW.at_region _ ?_ | (with_reducible (first | refine wk0 ?_ | refine wk2 ?_ | refine wk3 ?_ | refine wk9 ?_ | refine wkb ?_)) | refine kct rfl ?_)
        all_goals first | (exfalso; omega) | (exact Fin.q Try.results146 (.cons (.tmp rfl) .nil) [])
  · rw [show inI k 1 9 = false from decide_eq_false k1]
    simp only [Bool.false_and]
    by_cases k2 : k < 1
    all_goals
      refine Cd.enter' Try.func146 rfl Try.ntmps146 rfl ?_
      repeat' (first | ((with_reducible refine kAL ?_); (first | refine A_box rfl rfl 97 _ rfl rfl (.push qL qN) ?_ | refine A_as rfl rfl rfl rfl ?_ | refine A_field rfl rfl 97 _ 0 rfl ud97 rfl inf3 (by decide) 0 rfl rfl ?_ | refine A_load rfl rfl 3 _ rfl ud3 rfl rfl rfl rfl ?_ | (refine kL 105 rfl ?_; (first | refine A_cmp (d := 7) rfl rfl (c := true) .lss 3 3 _ _ rfl rfl rfl (by exact congrArg some (decide_eq_true (by (try (dsimp only; fail_if_success done)); omega))) ?_ | refine A_cmp (d := 7) rfl rfl (c := false) .lss 3 3 _ _ rfl rfl rfl (by exact congrArg some (decide_eq_false (by (try (dsimp only; fail_if_success done)); omega))) ?_ | refine A_cmp (d := 11) rfl rfl (c := true) .gtr 3 3 _ _ rfl rfl rfl (by exact congrArg some (decide_eq_true (by (try (dsimp only; fail_if_success done)); omega))) ?_)) | refine A_mt rfl rfl rfl rfl ?_ | refine A_pick rfl rfl _ _ _ rfl rfl rfl rfl rfl ?_ | refine AL.nil ?_ | refine AL.skip rfl rfl ?_)) | with_reducible refine AW.at_region _ ?_ | (with_reducible (first | refine wk0 ?_ | refine wk2 ?_ | refine wk3 ?_ | refine wk9 ?_ | refine wkb ?_)) | refine kct rfl ?_)
      all_goals first | (exfalso; omega) | (exact Fin.q Try.results146 (.cons (.tmp rfl) .nil) [])
set_option maxHeartbeats 8000000 in
theorem wait_c (w : DWait) (hl : w.cases.length ≤ 1152921504606846976) : Cd Try.prog 87 [aWt w] (bo (waitOK w)) [] := by
  have h1 : (w.cases.map tCs).length = w.cases.length := List.length_map _
  have c1 := in_c w.ticket 0 4294967295
  have c2 := in_c w.seq 0 1048575
  have c3 := in_c (w.cases.map tCs).length 1 3
  have c4 := pFits_c ⟨3, 0, 0, false, w.cases⟩ hl
  rw [fitQ_sel] at c4
  obtain ⟨on, tk, sq, l⟩ := w
  unfold waitOK
  dsimp only at *
  cases on
  · rw [if_neg (by decide)]
    have hst : l = [] ↔ l.length = 0 := List.length_eq_zero_iff.symm
    by_cases e1 : tk = 0 <;> by_cases e2 : sq = 0 <;> by_cases e3 : l.length = 0
    all_goals
      refine Cd.enter' Try.func87 rfl Try.ntmps87 rfl ?_
      repeat' (first | ((with_reducible refine kAL ?_); (first | refine A_box rfl rfl 92 _ rfl rfl (.push qL qN) ?_ | refine A_as rfl rfl rfl rfl ?_ | (refine kL 2948 rfl ?_; (first | refine A_field rfl rfl 92 _ 0 rfl ud92 rfl inf4 (by decide) 0 rfl rfl ?_ | refine A_field rfl rfl 92 _ 1 rfl ud92 rfl inf3 (by decide) 1 rfl rfl ?_ | refine A_field rfl rfl 92 _ 2 rfl ud92 rfl inf3 (by decide) 2 rfl rfl ?_ | refine A_field rfl rfl 92 _ 3 rfl ud92 rfl inf90 (by decide) 3 rfl rfl ?_)) | refine A_load rfl rfl 4 _ rfl ud4 rfl rfl rfl rfl ?_ | refine A_not rfl rfl _ _ rfl rfl ?_ | refine A_load rfl rfl 3 _ rfl ud3 rfl rfl rfl rfl ?_ | (refine kL 105 rfl ?_; (first | refine A_cmp (d := 8) rfl rfl (c := true) .eql 3 3 _ _ rfl rfl rfl (by exact congrArg some (decide_eq_true (by (try (dsimp only; fail_if_success done)); omega))) ?_ | refine A_cmp (d := 8) rfl rfl (c := false) .eql 3 3 _ _ rfl rfl rfl (by exact congrArg some (decide_eq_false (by (try (dsimp only; fail_if_success done)); omega))) ?_ | refine A_cmp (d := 12) rfl rfl (c := true) .eql 3 3 _ _ rfl rfl rfl (by exact congrArg some (decide_eq_true (by (try (dsimp only; fail_if_success done)); omega))) ?_ | refine A_cmp (d := 12) rfl rfl (c := false) .eql 3 3 _ _ rfl rfl rfl (by exact congrArg some (decide_eq_false (by (try (dsimp only; fail_if_success done)); omega))) ?_ | refine A_cmp (d := 18) rfl rfl (c := true) .eql 3 3 _ _ rfl rfl rfl (by exact congrArg some (decide_eq_true (by (try (dsimp only; fail_if_success done)); omega))) ?_ | refine A_cmp (d := 18) rfl rfl (c := false) .eql 3 3 _ _ rfl rfl rfl (by exact congrArg some (decide_eq_false (by (try (dsimp only; fail_if_success done)); omega))) ?_)) | refine A_mt rfl rfl rfl rfl ?_ | refine A_pick rfl rfl _ _ _ rfl rfl rfl rfl rfl ?_ | refine A_load rfl rfl 90 _ rfl ud90 rfl rfl rfl rfl ?_ | refine A_len rfl rfl 90 _ rfl ud90 rfl ?_ | refine AL.nil ?_ | refine AL.skip rfl rfl ?_)) | with_reducible refine AW.at_region _ ?_ | (with_reducible (first | refine wk0 ?_ | refine wk2 ?_ | refine wk3 ?_ | refine wk9 ?_ | refine wkb ?_)) | refine kct rfl ?_)
      all_goals first | (exfalso; omega) | (refine Fin.q Try.results87 (.cons (.tmp rfl) .nil) [] (hr := (.t ?_)))
      all_goals first | (simp [hst, *]; done) | skip
  · rw [if_pos rfl]
    have e3 : inI (l.map tCs).length 1 3 = decide (1 ≤ l.length ∧ l.length ≤ 3) := by unfold inI; exact decide_eq_decide.2 (by omega)
    rw [e3] at c3
    generalize inI tk 0 4294967295 = b1 at *
    generalize inI sq 0 1048575 = b2 at *
    by_cases k : 1 ≤ l.length ∧ l.length ≤ 3
    · rw [decide_eq_true k] at c3 ⊢
      rw [decide_eq_true k.2, Bool.true_and] at c4
      generalize l.all caseOK = b4 at *
      cases b1 <;> cases b2
      all_goals
        refine Cd.enter' Try.func87 rfl Try.ntmps87 rfl ?_
        repeat' (first | ((with_reducible refine kAL ?_); (first | refine A_box rfl rfl 92 _ rfl rfl (.push qL qN) ?_ | refine A_as rfl rfl rfl rfl ?_ | (refine kL 2948 rfl ?_; (first | refine A_field rfl rfl 92 _ 0 rfl ud92 rfl inf4 (by decide) 0 rfl rfl ?_ | refine A_field rfl rfl 92 _ 1 rfl ud92 rfl inf3 (by decide) 1 rfl rfl ?_ | refine A_field rfl rfl 92 _ 2 rfl ud92 rfl inf3 (by decide) 2 rfl rfl ?_ | refine A_field rfl rfl 92 _ 3 rfl ud92 rfl inf90 (by decide) 3 rfl rfl ?_)) | refine A_load rfl rfl 4 _ rfl ud4 rfl rfl rfl rfl ?_ | refine A_not rfl rfl _ _ rfl rfl ?_ | refine A_load rfl rfl 3 _ rfl ud3 rfl rfl rfl rfl ?_ | refine A_mt rfl rfl rfl rfl ?_ | refine A_pick rfl rfl _ _ _ rfl rfl rfl rfl rfl ?_ | refine A_load rfl rfl 90 _ rfl ud90 rfl rfl rfl rfl ?_ | refine A_len rfl rfl 90 _ rfl ud90 rfl ?_ | (refine kL 2474 rfl ?_; (first | refine A_cl rfl rfl Try.func77 rfl (c1) ?_ | refine A_cl rfl rfl Try.func77 rfl (c2) ?_ | refine A_cl rfl rfl Try.func77 rfl (c3) ?_)) | (refine kL 3118 rfl ?_; refine A_build rfl rfl 97 _ rfl ud97 inf97 [(0, 1), (1, 1), (2, 1), (3, 1), (4, 1)] (by kernel_rfl) (zs := [.t (.v (.int .i64 0)), .t (.v (.int .i64 0)), .t (.v (.int .i64 0)), .t (.v (.bool false)), AV.nl]) rfl (.cons rfl (.cons rfl .nil)) (cs := [_, _, _, _, _]) rfl ?_) | (refine kL 4682 rfl ?_; refine A_cl rfl rfl Try.func146 rfl (c4) ?_) | refine AL.nil ?_ | refine AL.skip rfl rfl ?_)) | with_reducible refine AW.at_region _ ?_ | (with_reducible (first | refine wk0 ?_ | refine wk2 ?_ | refine wk3 ?_ | refine wk9 ?_ | refine wkb ?_ | refine wkd ?_)) | refine kct rfl ?_ | refine kcf rfl ?_)
        all_goals first | (exfalso; omega) | (exact Fin.q Try.results87 (.cons (.tmp rfl) .nil) [])
    · rw [decide_eq_false k] at c3 ⊢
      rw [Bool.and_false, Bool.false_and]
      cases b1 <;> cases b2
      all_goals
        refine Cd.enter' Try.func87 rfl Try.ntmps87 rfl ?_
        repeat' (first | ((with_reducible refine kAL ?_); (first | refine A_box rfl rfl 92 _ rfl rfl (.push qL qN) ?_ | refine A_as rfl rfl rfl rfl ?_ | (refine kL 2948 rfl ?_; (first | refine A_field rfl rfl 92 _ 0 rfl ud92 rfl inf4 (by decide) 0 rfl rfl ?_ | refine A_field rfl rfl 92 _ 1 rfl ud92 rfl inf3 (by decide) 1 rfl rfl ?_ | refine A_field rfl rfl 92 _ 2 rfl ud92 rfl inf3 (by decide) 2 rfl rfl ?_ | refine A_field rfl rfl 92 _ 3 rfl ud92 rfl inf90 (by decide) 3 rfl rfl ?_)) | refine A_load rfl rfl 4 _ rfl ud4 rfl rfl rfl rfl ?_ | refine A_not rfl rfl _ _ rfl rfl ?_ | refine A_load rfl rfl 3 _ rfl ud3 rfl rfl rfl rfl ?_ | refine A_mt rfl rfl rfl rfl ?_ | refine A_pick rfl rfl _ _ _ rfl rfl rfl rfl rfl ?_ | refine A_load rfl rfl 90 _ rfl ud90 rfl rfl rfl rfl ?_ | refine A_len rfl rfl 90 _ rfl ud90 rfl ?_ | (refine kL 2474 rfl ?_; (first | refine A_cl rfl rfl Try.func77 rfl (c1) ?_ | refine A_cl rfl rfl Try.func77 rfl (c2) ?_ | refine A_cl rfl rfl Try.func77 rfl (c3) ?_)) | refine AL.nil ?_ | refine AL.skip rfl rfl ?_)) | with_reducible refine AW.at_region _ ?_ | (with_reducible (first | refine wk0 ?_ | refine wk2 ?_ | refine wk3 ?_ | refine wk9 ?_ | refine wkb ?_ | refine wkd ?_)) | refine kct rfl ?_ | refine kcf rfl ?_)
        all_goals first | (exfalso; omega) | (exact Fin.q Try.results87 (.cons (.tmp rfl) .nil) [])
theorem fits1_c (c : DConf) (x : DChan) (hl : x.buf.length ≤ 1152921504606846976) : Cd Try.prog 83 [.agg ((tCh x).map .t), .lp [i64 c.kind, i64 c.threads, i64 c.chans, i64 c.cap, i64 c.nodes, i64 c.retire, i64 c.patience, i64 c.tags, i64 c.seqs, i64 c.gens, .ln (c.start.map tI)]] (bo (!chanOK c.cap x)) [] := by
  have c1 := channel_c c x hl
  generalize chanOK c.cap x = b at c1
  show Cd Try.prog 83 [.agg [i64 x.gen, i64 x.cap, bo x.used, bo x.closed, .t (.lst (x.buf.map tI))], _] _ _
  refine Cd.enter' Try.func83 rfl Try.ntmps83 rfl ?_
  repeat' (first | ((with_reducible refine kAL ?_); (first | refine A_box rfl rfl 83 _ rfl rfl (.push qL qN) ?_ | refine A_as rfl rfl rfl rfl ?_ | refine A_load_lp_agg rfl rfl 24 _ rfl ud24 rfl inf24 rfl (us' := [_, _, _, _, _, _, _, _, _, _, _]) rfl rfl ?_ | refine A_load_agg rfl rfl 83 _ rfl ud83 rfl inf83 rfl rfl (us' := [_, _, _, _, _]) rfl rfl ?_ | (refine kL 2698 rfl ?_; refine A_cl rfl rfl Try.func84 rfl (c1) ?_) | refine A_not rfl rfl _ _ rfl rfl ?_ | refine AL.nil ?_)) | with_reducible refine AW.at_region _ ?_ | (with_reducible (first | refine wk0 ?_ | refine wk2 ?_ | refine wk9 ?_ | refine wkb ?_)))
  all_goals first | (exfalso; omega) | (exact Fin.q Try.results83 (.cons (.tmp rfl) .nil) [])
theorem fits2_c (w : DWait) (hl : w.cases.length ≤ 1152921504606846976) : Cd Try.prog 86 [.agg ((tWt w).map .t)] (bo (!waitOK w)) [] := by
  have c1 := wait_c w hl
  generalize waitOK w = b at c1
  show Cd Try.prog 86 [.agg [bo w.on, i64 w.ticket, i64 w.seq, .t (.lst (w.cases.map tCs))]] _ _
  refine Cd.enter' Try.func86 rfl Try.ntmps86 rfl ?_
  repeat' (first | ((with_reducible refine kAL ?_); (first | refine A_box rfl rfl 92 _ rfl rfl (.push qL qN) ?_ | refine A_as rfl rfl rfl rfl ?_ | refine A_load_agg rfl rfl 92 _ rfl ud92 rfl inf92 rfl rfl (us' := [_, _, _, _]) rfl rfl ?_ | (refine kL 2794 rfl ?_; refine A_cl rfl rfl Try.func87 rfl (c1) ?_) | refine A_not rfl rfl _ _ rfl rfl ?_ | refine AL.nil ?_)) | with_reducible refine AW.at_region _ ?_ | (with_reducible (first | refine wk0 ?_ | refine wk2 ?_ | refine wk9 ?_ | refine wkb ?_)))
  all_goals first | (exfalso; omega) | (exact Fin.q Try.results86 (.cons (.tmp rfl) .nil) [])
/-- halls that a machine can hold -/
structure okH (h : DHall) : Prop where
  c : h.chans.length ≤ 1152921504606846976
  b : ∀ x ∈ h.chans, x.buf.length ≤ 1152921504606846976
  w : h.waits.length ≤ 1152921504606846976
  k : ∀ x ∈ h.waits, x.cases.length ≤ 1152921504606846976
  d : h.done.length ≤ 1152921504606846976
set_option maxHeartbeats 8000000 in
theorem fitsH_c (c : DConf) (h : DHall) (hs : c.start.length ≤ 1152921504606846976) (hh : okH h) : Cd Try.prog 20 [aCf c, aHl h] (bo (fitsH c h)) [] := by
  have cF := conFC_c 83 [] [.lp [i64 c.kind, i64 c.threads, i64 c.chans, i64 c.cap, i64 c.nodes, i64 c.retire, i64 c.patience, i64 c.tags, i64 c.seqs, i64 c.gens, .ln (c.start.map tI)]] (fun x => !chanOK c.cap x) h.chans
    (fun x hx => ⟨_, _, [], [.lp [i64 c.kind, i64 c.threads, i64 c.chans, i64 c.cap, i64 c.nodes, i64 c.retire, i64 c.patience, i64 c.tags, i64 c.seqs, i64 c.gens, .ln (c.start.map tI)]], rfl, Try.func83, by kernel_rfl, by kernel_rfl, fun _ => .nil, fun _ => .cons (.lpL (by repeat (first | exact .nil | refine .cons ?_ ?_ | exact .t _ | exact .ln _))) .nil, fits1_c c x (hh.b x hx)⟩) rfl
    (fun _ _ => .fnL .nil (.cons (.lpL (by repeat (first | exact .nil | refine .cons ?_ ?_ | exact .t _ | exact .ln _))) .nil)) hh.c
  have cW := conFW_c 86 [] [] (fun x => !waitOK x) h.waits (fun x hx => ⟨_, _, [], [], rfl, Try.func86, by kernel_rfl, by kernel_rfl, fun _ => .nil, fun _ => .nil, fits2_c x (hh.k x hx)⟩) rfl (fun _ _ => .fnL .nil .nil) hh.w
  have c1 := check_c c hs
  have c2 := in_c h.ticket 0 4294967295
  have c3 := done_c h.done c.threads hh.d
  have h1 : (h.chans.map tCh).length = h.chans.length := List.length_map _
  have h2 : (h.waits.map tWt).length = h.waits.length := List.length_map _
  unfold fitsH
  rw [List.all_eq_not_any_not, List.all_eq_not_any_not]
  generalize (h.chans.any fun x => !chanOK c.cap x) = b5 at *
  generalize (h.waits.any fun x => !waitOK x) = b6 at *
  generalize inI h.ticket 0 4294967295 = b2 at *
  generalize resOK h.done c.threads = b3 at *
  cases hk : chkC c
  · rw [hk] at c1
    simp only [Bool.false_and]
    refine Cd.enter' Try.func20 rfl Try.ntmps20 rfl ?_
    repeat' (first | ((with_reducible refine kAL ?_); (first | refine A_box rfl rfl 24 _ rfl rfl (.push qL qN) ?_ | refine A_box rfl rfl 34 _ rfl rfl (.push qL qN) ?_ | refine A_as rfl rfl rfl rfl ?_ | refine A_load_agg rfl rfl 24 _ rfl ud24 rfl inf24 rfl rfl (us' := [_, _, _, _, _, _, _, _, _, _, _]) rfl rfl ?_ | (refine kL 426 rfl ?_; refine A_cl rfl rfl Try.func13 rfl (c1) ?_) | refine A_cmp (d := 7) rfl rfl .neq 25 25 _ _ rfl rfl rfl rfl ?_ | refine A_mt rfl rfl rfl rfl ?_ | refine A_pick rfl rfl _ _ _ rfl rfl rfl rfl rfl ?_ | refine AL.nil ?_ | refine AL.skip rfl rfl ?_)) | with_reducible refine AW.at_region _ ?_ | (with_reducible (first | refine wk0 ?_ | refine wk2 ?_ | refine wk3 ?_ | refine wk9 ?_ | refine wkb ?_)) | refine kct rfl ?_)
    all_goals first | (exfalso; omega) | (exact Fin.q Try.results20 (.cons (.tmp rfl) .nil) [])
  · rw [hk] at c1
    by_cases e1 : c.kind = 3 <;> by_cases e2 : (h.chans.length : Int) = c.chans <;> by_cases e3 : (h.waits.length : Int) = c.threads
    all_goals
      simp only [e1, e2, e3, decide_true, decide_false, Bool.true_and, Bool.and_true, Bool.false_and, Bool.and_false]
      refine Cd.enter' Try.func20 rfl Try.ntmps20 rfl ?_
      repeat' (first | ((with_reducible refine kAL ?_); (first | refine A_box rfl rfl 24 _ rfl rfl (.push qL qN) ?_ | refine A_box rfl rfl 34 _ rfl rfl (.push qL qN) ?_ | refine A_as rfl rfl rfl rfl ?_ | refine A_load_agg rfl rfl 24 _ rfl ud24 rfl inf24 rfl rfl (us' := [_, _, _, _, _, _, _, _, _, _, _]) rfl rfl ?_ | (refine kL 426 rfl ?_; refine A_cl rfl rfl Try.func13 rfl (c1) ?_) | refine A_cmp (d := 7) rfl rfl .neq 25 25 _ _ rfl rfl rfl rfl ?_ | refine A_mt rfl rfl rfl rfl ?_ | (refine kL 772 rfl ?_; (first | refine A_field rfl rfl 24 _ 0 rfl ud24 rfl inf3 (by decide) 0 rfl rfl ?_ | refine A_field rfl rfl 24 _ 2 rfl ud24 rfl inf3 (by decide) 2 rfl rfl ?_ | refine A_field rfl rfl 24 _ 1 rfl ud24 rfl inf3 (by decide) 1 rfl rfl ?_)) | refine A_load rfl rfl 3 _ rfl ud3 rfl rfl rfl rfl ?_ | (refine kL 105 rfl ?_; (first | refine A_cmp (d := 11) rfl rfl (c := true) .neq 3 3 _ _ rfl rfl rfl (by exact congrArg some (decide_eq_true (by (try (dsimp only; fail_if_success done)); omega))) ?_ | refine A_cmp (d := 11) rfl rfl (c := false) .neq 3 3 _ _ rfl rfl rfl (by exact congrArg some (decide_eq_false (by (try (dsimp only; fail_if_success done)); omega))) ?_ | refine A_cmp (d := 25) rfl rfl (c := true) .neq 3 3 _ _ rfl rfl rfl (by exact congrArg some (decide_eq_true (by (try (dsimp only; fail_if_success done)); omega))) ?_ | refine A_cmp (d := 25) rfl rfl (c := false) .neq 3 3 _ _ rfl rfl rfl (by exact congrArg some (decide_eq_false (by (try (dsimp only; fail_if_success done)); omega))) ?_ | refine A_cmp (d := 33) rfl rfl (c := true) .neq 3 3 _ _ rfl rfl rfl (by exact congrArg some (decide_eq_true (by (try (dsimp only; fail_if_success done)); omega))) ?_ | refine A_cmp (d := 33) rfl rfl (c := false) .neq 3 3 _ _ rfl rfl rfl (by exact congrArg some (decide_eq_false (by (try (dsimp only; fail_if_success done)); omega))) ?_)) | refine A_pick rfl rfl _ _ _ rfl rfl rfl rfl rfl ?_ | (refine kL 1092 rfl ?_; (first | refine A_field rfl rfl 34 _ 0 rfl ud34 rfl inf3 (by decide) 0 rfl rfl ?_ | refine A_field rfl rfl 34 _ 1 rfl ud34 rfl inf30 (by decide) 1 rfl rfl ?_ | refine A_field rfl rfl 34 _ 2 rfl ud34 rfl inf31 (by decide) 2 rfl rfl ?_ | refine A_field rfl rfl 34 _ 3 rfl ud34 rfl inf32 (by decide) 3 rfl rfl ?_)) | (refine kL 2474 rfl ?_; refine A_cl rfl rfl Try.func77 rfl (c2) ?_) | refine A_not rfl rfl _ _ rfl rfl ?_ | refine A_load rfl rfl 30 _ rfl ud30 rfl rfl rfl rfl ?_ | (refine kL 12 rfl ?_; (first | refine A_len rfl rfl 30 _ rfl ud30 rfl ?_ | refine A_len rfl rfl 31 _ rfl ud31 rfl ?_)) | refine A_load rfl rfl 31 _ rfl ud31 rfl rfl rfl rfl ?_ | refine A_load rfl rfl 32 _ rfl ud32 rfl rfl rfl rfl ?_ | (refine kL 2602 rfl ?_; refine A_cl rfl rfl Try.func81 rfl (c3) ?_) | (refine kL 21 rfl ?_; refine A_fn rfl rfl _ _ _ rfl .nil (.cons rfl .nil) ?_) | (refine kL 2634 rfl ?_; refine A_cl rfl rfl Try.func82 rfl (cF) ?_) | (refine kL 2730 rfl ?_; refine A_cl rfl rfl Try.func85 rfl (cW) ?_) | refine AL.nil ?_ | refine AL.skip rfl rfl ?_ | (refine AL.split 19 rfl (fun hb => ?_) (fun hb => ?_) <;> (try simp only [decide_eq_true_eq, decide_eq_false_iff_not, Bool.not_eq_true', Bool.not_eq_false'] at hb) <;> (first | refine AL.skip rfl rfl ?_ | refine AL.need rfl ?_)) | (refine AL.split 48 rfl (fun hb => ?_) (fun hb => ?_) <;> (try simp only [decide_eq_true_eq, decide_eq_false_iff_not, Bool.not_eq_true', Bool.not_eq_false'] at hb) <;> (first | refine AL.skip rfl rfl ?_ | refine AL.need rfl ?_)))) | with_reducible refine AW.at_region _ ?_ | (with_reducible (first | refine wk0 ?_ | refine wk2 ?_ | refine wk3 ?_ | refine wk9 ?_ | refine wkb ?_ | refine wkd ?_)) | refine kct rfl ?_ | refine kcb rfl (fun hc => ?_) (fun hc => ?_))
      all_goals first | (exfalso; omega) | ((first | exact Fin.q Try.results20 (.cons (.tmp rfl) .nil) [] | refine Fin.q Try.results20 (.cons (.tmp rfl) .nil) [] (hr := (.t ?_))))
      all_goals first | (simp [*]; done) | skip
set_option maxHeartbeats 8000000 in
theorem fitsX_c (c : DConf) (x : DCells) (hs : c.start.length ≤ 1152921504606846976) (h1 : x.list.length ≤ 1152921504606846976) (h2 : x.done.length ≤ 1152921504606846976) : Cd Try.prog 27 [aCf c, aCl x] (bo (fitsX c x)) [] := by
  have c1 := check_c c hs
  have c2 := values_c x.list c.cap h1
  have c3 := done_c x.done c.threads h2
  unfold fitsX
  generalize valsOK x.list c.cap = b2 at *
  generalize resOK x.done c.threads = b3 at *
  cases hk : chkC c
  · rw [hk] at c1
    simp only [Bool.false_and]
    refine Cd.enter' Try.func27 rfl Try.ntmps27 rfl ?_
    repeat' (first | ((with_reducible refine kAL ?_); (first | refine A_box rfl rfl 24 _ rfl rfl (.push qL qN) ?_ | refine A_box rfl rfl 44 _ rfl rfl (.push qL qN) ?_ | refine A_as rfl rfl rfl rfl ?_ | refine A_load_agg rfl rfl 24 _ rfl ud24 rfl inf24 rfl rfl (us' := [_, _, _, _, _, _, _, _, _, _, _]) rfl rfl ?_ | (refine kL 426 rfl ?_; refine A_cl rfl rfl Try.func13 rfl (c1) ?_) | refine A_cmp (d := 7) rfl rfl .eql 25 25 _ _ rfl rfl rfl rfl ?_ | refine A_mt rfl rfl rfl rfl ?_ | refine A_pick rfl rfl _ _ _ rfl rfl rfl rfl rfl ?_ | refine AL.nil ?_ | refine AL.skip rfl rfl ?_)) | with_reducible refine AW.at_region _ ?_ | (with_reducible (first | refine wk0 ?_ | refine wk2 ?_ | refine wk9 ?_ | refine wkb ?_)))
    all_goals first | (exfalso; omega) | (exact Fin.q Try.results27 (.cons (.tmp rfl) .nil) [])
  · rw [hk] at c1
    by_cases e1 : c.kind = 3 <;> by_cases e2 : x.cap = c.cap
    all_goals
      simp only [e1, e2, ne_eq, not_true_eq_false, not_false_eq_true, decide_true, decide_false, Bool.true_and, Bool.and_true, Bool.false_and, Bool.and_false]
      refine Cd.enter' Try.func27 rfl Try.ntmps27 rfl ?_
      repeat' (first | ((with_reducible refine kAL ?_); (first | refine A_box rfl rfl 24 _ rfl rfl (.push qL qN) ?_ | refine A_box rfl rfl 44 _ rfl rfl (.push qL qN) ?_ | refine A_as rfl rfl rfl rfl ?_ | refine A_load_agg rfl rfl 24 _ rfl ud24 rfl inf24 rfl rfl (us' := [_, _, _, _, _, _, _, _, _, _, _]) rfl rfl ?_ | (refine kL 426 rfl ?_; refine A_cl rfl rfl Try.func13 rfl (c1) ?_) | refine A_cmp (d := 7) rfl rfl .eql 25 25 _ _ rfl rfl rfl rfl ?_ | refine A_mt rfl rfl rfl rfl ?_ | (refine kL 772 rfl ?_; (first | refine A_field rfl rfl 24 _ 0 rfl ud24 rfl inf3 (by decide) 0 rfl rfl ?_ | refine A_field rfl rfl 24 _ 3 rfl ud24 rfl inf3 (by decide) 3 rfl rfl ?_ | refine A_field rfl rfl 24 _ 1 rfl ud24 rfl inf3 (by decide) 1 rfl rfl ?_)) | refine A_load rfl rfl 3 _ rfl ud3 rfl rfl rfl rfl ?_ | (refine kL 105 rfl ?_; (first | refine A_cmp (d := 11) rfl rfl (c := true) .neq 3 3 _ _ rfl rfl rfl (by exact congrArg some (decide_eq_true (by (try (dsimp only; fail_if_success done)); omega))) ?_ | refine A_cmp (d := 11) rfl rfl (c := false) .neq 3 3 _ _ rfl rfl rfl (by exact congrArg some (decide_eq_false (by (try (dsimp only; fail_if_success done)); omega))) ?_ | refine A_cmp (d := 18) rfl rfl (c := true) .eql 3 3 _ _ rfl rfl rfl (by exact congrArg some (decide_eq_true (by (try (dsimp only; fail_if_success done)); omega))) ?_ | refine A_cmp (d := 18) rfl rfl (c := false) .eql 3 3 _ _ rfl rfl rfl (by exact congrArg some (decide_eq_false (by (try (dsimp only; fail_if_success done)); omega))) ?_)) | refine A_pick rfl rfl _ _ _ rfl rfl rfl rfl rfl ?_ | (refine kL 1412 rfl ?_; (first | refine A_field rfl rfl 44 _ 0 rfl ud44 rfl inf3 (by decide) 0 rfl rfl ?_ | refine A_field rfl rfl 44 _ 1 rfl ud44 rfl inf22 (by decide) 1 rfl rfl ?_ | refine A_field rfl rfl 44 _ 2 rfl ud44 rfl inf32 (by decide) 2 rfl rfl ?_)) | refine A_load rfl rfl 22 _ rfl ud22 rfl rfl rfl rfl ?_ | (refine kL 3370 rfl ?_; refine A_cl rfl rfl Try.func105 rfl (c2) ?_) | refine A_load rfl rfl 32 _ rfl ud32 rfl rfl rfl rfl ?_ | (refine kL 2602 rfl ?_; refine A_cl rfl rfl Try.func81 rfl (c3) ?_) | refine AL.nil ?_ | refine AL.skip rfl rfl ?_ | (refine AL.split 27 rfl (fun hb => ?_) (fun hb => ?_) <;> (try simp only [decide_eq_true_eq, decide_eq_false_iff_not, Bool.not_eq_true', Bool.not_eq_false'] at hb) <;> (first | refine AL.skip rfl rfl ?_ | refine AL.need rfl ?_)))) | with_reducible refine AW.at_region _ ?_ | (with_reducible (first | refine wk0 ?_ | refine wk2 ?_ | refine wk9 ?_ | refine wkb ?_)))
      all_goals first | (exfalso; omega) | ((first | exact Fin.q Try.results27 (.cons (.tmp rfl) .nil) [] | refine Fin.q Try.results27 (.cons (.tmp rfl) .nil) [] (hr := (.t ?_))))
      all_goals first | (simp [*]; done) | skip
end Go.Proofs.Ytijaphlmomcbfaa
