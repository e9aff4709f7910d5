/- Shapes: code.Check, State, Size, and the reference's. -/
import Derived.Test.YtijaphlmomcbfaaTIdxF
namespace Go.Proofs.Ytijaphlmomcbfaa
set_option linter.unusedVariables false
set_option linter.unusedSimpArgs false
set_option linter.unnecessarySimpa false
open Go.RowKit
set_option maxHeartbeats 32000000
attribute [local irreducible] AL AW RG Fin C Cd Cio thenQ blockQ retQ
set_option maxRecDepth 100000
def inI (n a b : Int) : Bool := decide (a ≤ n ∧ n ≤ b)
def ownC (c : DConf) : Bool :=
  if c.kind = 1 ∨ c.kind = 2 then inI c.cap 1 16 && decide (c.chans = 0) && decide (c.gens = 0) && decide (c.start = [])
  else if c.kind = 3 then inI c.chans 1 8 && inI c.cap 0 8 && inI c.gens 1 4095 && decide ((c.start.length : Int) ≤ c.chans) && !(c.start.any fun n => !inI n 0 c.cap)
  else false
def chkC (c : DConf) : Bool := inI c.threads 1 64 && inI c.nodes 1 64 && inI c.retire 1 32 && inI c.patience 0 4 && inI c.tags 1 4294967295 && inI c.seqs 1 1048575 && ownC c
abbrev aCf (c : DConf) : AV := .agg [i64 c.kind, i64 c.threads, i64 c.chans, i64 c.cap, i64 c.nodes, i64 c.retire, i64 c.patience, i64 c.tags, i64 c.seqs, i64 c.gens, .ln (c.start.map tI)]
theorem in_c (n a b : Int) : Cd Try.prog 77 [i64 n, i64 a, i64 b] (bo (inI n a b)) [] := by
  unfold inI
  by_cases h1 : a ≤ n <;> by_cases h2 : n ≤ b
  all_goals
    refine Cd.enter' Try.func77 rfl Try.ntmps77 rfl ?_
    repeat' (first | ((with_reducible refine kAL ?_); (first | refine A_as rfl rfl rfl rfl ?_ | refine A_mt rfl rfl rfl rfl ?_ | (refine kL 105 rfl ?_; (first | refine A_cmp (d := 9) rfl rfl (c := true) .geq 3 3 _ _ rfl rfl rfl (by exact congrArg some (decide_eq_true (by (try (dsimp only; fail_if_success done)); omega))) ?_ | refine A_cmp (d := 9) rfl rfl (c := false) .geq 3 3 _ _ rfl rfl rfl (by exact congrArg some (decide_eq_false (by (try (dsimp only; fail_if_success done)); omega))) ?_ | refine A_cmp (d := 13) rfl rfl (c := true) .leq 3 3 _ _ rfl rfl rfl (by exact congrArg some (decide_eq_true (by (try (dsimp only; fail_if_success done)); omega))) ?_ | refine A_cmp (d := 13) rfl rfl (c := false) .leq 3 3 _ _ rfl rfl rfl (by exact congrArg some (decide_eq_false (by (try (dsimp only; fail_if_success done)); omega))) ?_)) | refine A_pick rfl rfl _ _ _ rfl rfl rfl rfl rfl ?_ | refine AL.nil ?_ | refine AL.skip rfl rfl ?_)) | with_reducible refine AW.at_region _ ?_ | (with_reducible (first | refine wk0 ?_ | refine wk2 ?_ | refine wk9 ?_ | refine wkb ?_)))
    all_goals first | (exfalso; omega) | (refine Fin.q Try.results77 (.cons (.tmp rfl) .nil) [] (hr := (.t ?_)))
    all_goals simp [h1, h2]
theorem inR_c (n a b : Int) : Cd Try.prog 79 [i64 n, i64 a, i64 b] (bo (inI n a b)) [] := by
  unfold inI
  by_cases h1 : a ≤ n <;> by_cases h2 : n ≤ b
  all_goals
    refine Cd.enter' Try.func79 rfl Try.ntmps79 rfl ?_
    repeat' (first | ((with_reducible refine kAL ?_); (first | refine A_as rfl rfl rfl rfl ?_ | refine A_mt rfl rfl rfl rfl ?_ | (refine kL 105 rfl ?_; (first | refine A_cmp (d := 9) rfl rfl (c := true) .geq 3 3 _ _ rfl rfl rfl (by exact congrArg some (decide_eq_true (by (try (dsimp only; fail_if_success done)); omega))) ?_ | refine A_cmp (d := 9) rfl rfl (c := false) .geq 3 3 _ _ rfl rfl rfl (by exact congrArg some (decide_eq_false (by (try (dsimp only; fail_if_success done)); omega))) ?_ | refine A_cmp (d := 13) rfl rfl (c := true) .leq 3 3 _ _ rfl rfl rfl (by exact congrArg some (decide_eq_true (by (try (dsimp only; fail_if_success done)); omega))) ?_ | refine A_cmp (d := 13) rfl rfl (c := false) .leq 3 3 _ _ rfl rfl rfl (by exact congrArg some (decide_eq_false (by (try (dsimp only; fail_if_success done)); omega))) ?_)) | refine A_pick rfl rfl _ _ _ rfl rfl rfl rfl rfl ?_ | refine AL.nil ?_ | refine AL.skip rfl rfl ?_)) | with_reducible refine AW.at_region _ ?_ | (with_reducible (first | refine wk0 ?_ | refine wk2 ?_ | refine wk9 ?_ | refine wkb ?_)))
    all_goals first | (exfalso; omega) | (refine Fin.q Try.results79 (.cons (.tmp rfl) .nil) [] (hr := (.t ?_)))
    all_goals simp [h1, h2]
theorem own1_c (n : Int) (c : DConf) : Cd Try.prog 140 [i64 n, .lp [i64 c.kind, i64 c.threads, i64 c.chans, i64 c.cap, i64 c.nodes, i64 c.retire, i64 c.patience, i64 c.tags, i64 c.seqs, i64 c.gens, .ln (c.start.map tI)]] (bo (!inI n 0 c.cap)) [] := by
  have c1 := in_c n 0 c.cap
  generalize inI n 0 c.cap = b at c1
  cases b
  all_goals
    refine Cd.enter' Try.func140 rfl Try.ntmps140 rfl ?_
    repeat' (first | ((with_reducible refine kAL ?_); (first | refine A_as rfl rfl rfl rfl ?_ | refine A_mt rfl rfl rfl rfl ?_ | refine A_field rfl rfl 24 _ 3 rfl ud24 rfl inf3 (by decide) 3 rfl rfl ?_ | refine A_load_lp rfl rfl 3 _ rfl ud3 rfl rfl rfl ?_ | (refine kL 2474 rfl ?_; refine A_cl rfl rfl Try.func77 rfl (c1) ?_) | refine A_not rfl rfl _ _ rfl rfl ?_ | refine AL.nil ?_)) | with_reducible refine AW.at_region _ ?_ | (with_reducible (first | refine wk0 ?_ | refine wk2 ?_ | refine wk9 ?_ | refine wkb ?_)))
    all_goals first | (exfalso; omega) | (exact Fin.q Try.results140 (.cons (.tmp rfl) .nil) [])
set_option maxHeartbeats 8000000 in
theorem own_c (c : DConf) (hs : c.start.length ≤ 1152921504606846976) : Cd Try.prog 78 [aCf c] (bo (ownC c)) [] := by
  have cF := conFI_c 140 [] [.lp [i64 c.kind, i64 c.threads, i64 c.chans, i64 c.cap, i64 c.nodes, i64 c.retire, i64 c.patience, i64 c.tags, i64 c.seqs, i64 c.gens, .ln (c.start.map tI)]] (fun n => !inI n 0 c.cap) c.start
    (fun n _ => ⟨_, _, [], [.lp [i64 c.kind, i64 c.threads, i64 c.chans, i64 c.cap, i64 c.nodes, i64 c.retire, i64 c.patience, i64 c.tags, i64 c.seqs, i64 c.gens, .ln (c.start.map tI)]], rfl, Try.func140, by kernel_rfl, by kernel_rfl, fun _ => .nil, fun _ => .cons (.lpL (by repeat (first | exact .nil | refine .cons ?_ ?_ | exact .t _ | exact .ln _))) .nil, own1_c n c⟩) rfl
    (fun _ _ => .fnL .nil (.cons (.lpL (by repeat (first | exact .nil | refine .cons ?_ ?_ | exact .t _ | exact .ln _))) .nil)) hs
  have h1 : (c.start.map tI).length = c.start.length := List.length_map _
  have c1 := in_c c.cap 1 16
  have c2 := in_c c.chans 1 8
  have c3 := in_c c.cap 0 8
  have c4 := in_c c.gens 1 4095
  unfold ownC
  generalize inI c.cap 1 16 = b1 at *
  generalize inI c.chans 1 8 = b2 at *
  generalize inI c.cap 0 8 = b3 at *
  generalize inI c.gens 1 4095 = b4 at *
  generalize (c.start.any fun n => !inI n 0 c.cap) = b5 at *
  have hst : c.start = [] ↔ c.start.length = 0 := List.length_eq_zero_iff.symm
  by_cases k : c.kind = 1 ∨ c.kind = 2
  · rw [if_pos k]
    rcases k with k | k
    all_goals
      by_cases e1 : c.chans = 0 <;> by_cases e2 : c.gens = 0 <;> by_cases e3 : c.start.length = 0
      all_goals
        cases b1
        all_goals
          refine Cd.enter' Try.func78 rfl Try.ntmps78 rfl ?_
          repeat' (first | ((with_reducible refine kAL ?_); (first | refine A_box rfl rfl 24 _ rfl rfl (.push qL qN) ?_ | refine A_as rfl rfl rfl rfl ?_ | (refine kL 772 rfl ?_; (first | refine A_field rfl rfl 24 _ 0 rfl ud24 rfl inf3 (by decide) 0 rfl rfl ?_ | refine A_field rfl rfl 24 _ 3 rfl ud24 rfl inf3 (by decide) 3 rfl rfl ?_ | refine A_field rfl rfl 24 _ 2 rfl ud24 rfl inf3 (by decide) 2 rfl rfl ?_ | refine A_field rfl rfl 24 _ 9 rfl ud24 rfl inf3 (by decide) 9 rfl rfl ?_ | refine A_field rfl rfl 24 _ 10 rfl ud24 rfl inf22 (by decide) 10 rfl rfl ?_)) | refine A_load rfl rfl 3 _ rfl ud3 rfl rfl rfl rfl ?_ | (refine kL 105 rfl ?_; (first | refine A_cmp (d := 7) rfl rfl (c := true) .eql 3 3 _ _ rfl rfl rfl (by exact congrArg some (decide_eq_true (by (try (dsimp only; fail_if_success done)); omega))) ?_ | refine A_cmp (d := 7) rfl rfl (c := false) .eql 3 3 _ _ rfl rfl rfl (by exact congrArg some (decide_eq_false (by (try (dsimp only; fail_if_success done)); omega))) ?_ | refine A_cmp (d := 8) rfl rfl (c := true) .eql 3 3 _ _ rfl rfl rfl (by exact congrArg some (decide_eq_true (by (try (dsimp only; fail_if_success done)); omega))) ?_ | refine A_cmp (d := 15) rfl rfl (c := true) .eql 3 3 _ _ rfl rfl rfl (by exact congrArg some (decide_eq_true (by (try (dsimp only; fail_if_success done)); omega))) ?_ | refine A_cmp (d := 15) rfl rfl (c := false) .eql 3 3 _ _ rfl rfl rfl (by exact congrArg some (decide_eq_false (by (try (dsimp only; fail_if_success done)); omega))) ?_ | refine A_cmp (d := 20) rfl rfl (c := true) .eql 3 3 _ _ rfl rfl rfl (by exact congrArg some (decide_eq_true (by (try (dsimp only; fail_if_success done)); omega))) ?_ | refine A_cmp (d := 20) rfl rfl (c := false) .eql 3 3 _ _ rfl rfl rfl (by exact congrArg some (decide_eq_false (by (try (dsimp only; fail_if_success done)); omega))) ?_ | refine A_cmp (d := 26) rfl rfl (c := true) .eql 3 3 _ _ rfl rfl rfl (by exact congrArg some (decide_eq_true (by (try (dsimp only; fail_if_success done)); omega))) ?_ | refine A_cmp (d := 26) rfl rfl (c := false) .eql 3 3 _ _ rfl rfl rfl (by exact congrArg some (decide_eq_false (by (try (dsimp only; fail_if_success done)); omega))) ?_)) | (refine kL 2474 rfl ?_; refine A_cl rfl rfl Try.func77 rfl (c1) ?_) | refine A_mt rfl rfl rfl rfl ?_ | refine A_pick rfl rfl _ _ _ rfl rfl rfl rfl rfl ?_ | refine A_load rfl rfl 22 _ rfl ud22 rfl rfl rfl rfl ?_ | refine A_len rfl rfl 22 _ rfl ud22 rfl ?_ | refine AL.nil ?_ | refine AL.skip rfl rfl ?_)) | with_reducible refine AW.at_region _ ?_ | (with_reducible (first | refine wk0 ?_ | refine wk1 ?_ | refine wk2 ?_ | refine wk3 ?_ | refine wk6 ?_ | refine wk9 ?_ | refine wkb ?_ | refine wkd ?_)) | refine kct rfl ?_ | refine kcf rfl ?_)
          all_goals first | (exfalso; omega) | ((first | exact Fin.q Try.results78 (.cons (.tmp rfl) .nil) [] | refine Fin.q Try.results78 (.cons (.tmp rfl) .nil) [] (hr := (.t ?_))))
          all_goals first | (simp [hst, *]; done) | skip
  · rw [if_neg k]
    by_cases k3 : c.kind = 3
    · rw [if_pos k3]
      by_cases e1 : (c.start.length : Int) ≤ c.chans
      all_goals
        cases b2 <;> cases b3 <;> cases b4 <;> cases b5
        all_goals
          refine Cd.enter' Try.func78 rfl Try.ntmps78 rfl ?_
          repeat' (first | ((with_reducible refine kAL ?_); (first | refine A_box rfl rfl 24 _ rfl rfl (.push qL qN) ?_ | refine A_as rfl rfl rfl rfl ?_ | (refine kL 772 rfl ?_; (first | refine A_field rfl rfl 24 _ 0 rfl ud24 rfl inf3 (by decide) 0 rfl rfl ?_ | refine A_field rfl rfl 24 _ 3 rfl ud24 rfl inf3 (by decide) 3 rfl rfl ?_ | refine A_field rfl rfl 24 _ 2 rfl ud24 rfl inf3 (by decide) 2 rfl rfl ?_ | refine A_field rfl rfl 24 _ 9 rfl ud24 rfl inf3 (by decide) 9 rfl rfl ?_ | refine A_field rfl rfl 24 _ 10 rfl ud24 rfl inf22 (by decide) 10 rfl rfl ?_)) | refine A_load rfl rfl 3 _ rfl ud3 rfl rfl rfl rfl ?_ | (refine kL 105 rfl ?_; (first | refine A_cmp (d := 7) rfl rfl (c := false) .eql 3 3 _ _ rfl rfl rfl (by exact congrArg some (decide_eq_false (by (try (dsimp only; fail_if_success done)); omega))) ?_ | refine A_cmp (d := 8) rfl rfl (c := false) .eql 3 3 _ _ rfl rfl rfl (by exact congrArg some (decide_eq_false (by (try (dsimp only; fail_if_success done)); omega))) ?_ | refine A_cmp (d := 29) rfl rfl (c := true) .eql 3 3 _ _ rfl rfl rfl (by exact congrArg some (decide_eq_true (by (try (dsimp only; fail_if_success done)); omega))) ?_ | refine A_cmp (d := 49) rfl rfl (c := true) .leq 3 3 _ _ rfl rfl rfl (by exact congrArg some (decide_eq_true (by (try (dsimp only; fail_if_success done)); omega))) ?_ | refine A_cmp (d := 49) rfl rfl (c := false) .leq 3 3 _ _ rfl rfl rfl (by exact congrArg some (decide_eq_false (by (try (dsimp only; fail_if_success done)); omega))) ?_)) | (refine kL 2474 rfl ?_; (first | refine A_cl rfl rfl Try.func77 rfl (c2) ?_ | refine A_cl rfl rfl Try.func77 rfl (c3) ?_ | refine A_cl rfl rfl Try.func77 rfl (c4) ?_)) | refine A_mt rfl rfl rfl rfl ?_ | refine A_pick rfl rfl _ _ _ rfl rfl rfl rfl rfl ?_ | refine A_load rfl rfl 22 _ rfl ud22 rfl rfl rfl rfl ?_ | refine A_len rfl rfl 22 _ rfl ud22 rfl ?_ | (refine kL 21 rfl ?_; refine A_fn rfl rfl _ _ _ rfl .nil (.cons rfl .nil) ?_) | (refine kL 4458 rfl ?_; refine A_cl rfl rfl Try.func139 rfl (cF) ?_) | refine A_not rfl rfl _ _ rfl rfl ?_ | refine AL.nil ?_ | refine AL.skip rfl rfl ?_)) | with_reducible refine AW.at_region _ ?_ | (with_reducible (first | refine wk0 ?_ | refine wk1 ?_ | refine wk2 ?_ | refine wk3 ?_ | refine wk6 ?_ | refine wk9 ?_ | refine wkb ?_)) | refine kct rfl ?_ | refine kcf rfl ?_)
          all_goals first | (exfalso; omega) | ((first | exact Fin.q Try.results78 (.cons (.tmp rfl) .nil) [] | refine Fin.q Try.results78 (.cons (.tmp rfl) .nil) [] (hr := (.t ?_))))
          all_goals first | (simp [e1]; done) | skip
    · rw [if_neg k3]
      refine Cd.enter' Try.func78 rfl Try.ntmps78 rfl ?_
      repeat' (first | ((with_reducible refine kAL ?_); (first | refine A_box rfl rfl 24 _ rfl rfl (.push qL qN) ?_ | refine A_as rfl rfl rfl rfl ?_ | refine A_field rfl rfl 24 _ 0 rfl ud24 rfl inf3 (by decide) 0 rfl rfl ?_ | refine A_load rfl rfl 3 _ rfl ud3 rfl rfl rfl rfl ?_ | (refine kL 105 rfl ?_; (first | refine A_cmp (d := 7) rfl rfl (c := false) .eql 3 3 _ _ rfl rfl rfl (by exact congrArg some (decide_eq_false (by (try (dsimp only; fail_if_success done)); omega))) ?_ | refine A_cmp (d := 8) rfl rfl (c := false) .eql 3 3 _ _ rfl rfl rfl (by exact congrArg some (decide_eq_false (by (try (dsimp only; fail_if_success done)); omega))) ?_ | refine A_cmp (d := 29) rfl rfl (c := false) .eql 3 3 _ _ rfl rfl rfl (by exact congrArg some (decide_eq_false (by (try (dsimp only; fail_if_success done)); omega))) ?_)) | refine AL.nil ?_)) | with_reducible refine AW.at_region _ ?_ | (with_reducible (first | refine wk0 ?_ | refine wk1 ?_ | refine wk2 ?_ | refine wk5 ?_ | refine wk9 ?_ | refine wkb ?_ | refine wkd ?_)) | refine kcf rfl ?_)
      all_goals first | (exfalso; omega) | (exact Fin.q Try.results78 (.cons (.tmp rfl) .nil) [])
set_option maxHeartbeats 8000000 in
theorem check_c (c : DConf) (hs : c.start.length ≤ 1152921504606846976) : Cd Try.prog 13 [aCf c] (i64 (if chkC c then 0 else 1)) [] := by
  have c1 := in_c c.threads 1 64
  have c2 := in_c c.nodes 1 64
  have c3 := in_c c.retire 1 32
  have c4 := in_c c.patience 0 4
  have c5 := in_c c.tags 1 4294967295
  have c6 := in_c c.seqs 1 1048575
  have c7 := own_c c hs
  unfold chkC
  generalize inI c.threads 1 64 = b1 at *
  generalize inI c.nodes 1 64 = b2 at *
  generalize inI c.retire 1 32 = b3 at *
  generalize inI c.patience 0 4 = b4 at *
  generalize inI c.tags 1 4294967295 = b5 at *
  generalize inI c.seqs 1 1048575 = b6 at *
  generalize ownC c = b7 at *
  refine Cd.enter' Try.func13 rfl Try.ntmps13 rfl ?_
  repeat' (first | ((with_reducible refine kAL ?_); (first | refine A_box rfl rfl 24 _ rfl rfl (.push qL qN) ?_ | refine A_as rfl rfl rfl rfl ?_ | (refine kL 772 rfl ?_; (first | refine A_field rfl rfl 24 _ 1 rfl ud24 rfl inf3 (by decide) 1 rfl rfl ?_ | refine A_field rfl rfl 24 _ 4 rfl ud24 rfl inf3 (by decide) 4 rfl rfl ?_ | refine A_field rfl rfl 24 _ 5 rfl ud24 rfl inf3 (by decide) 5 rfl rfl ?_ | refine A_field rfl rfl 24 _ 6 rfl ud24 rfl inf3 (by decide) 6 rfl rfl ?_ | refine A_field rfl rfl 24 _ 7 rfl ud24 rfl inf3 (by decide) 7 rfl rfl ?_ | refine A_field rfl rfl 24 _ 8 rfl ud24 rfl inf3 (by decide) 8 rfl rfl ?_)) | refine A_load rfl rfl 3 _ rfl ud3 rfl rfl rfl rfl ?_ | (refine kL 2474 rfl ?_; (first | refine A_cl rfl rfl Try.func77 rfl (c1) ?_ | refine A_cl rfl rfl Try.func77 rfl (c2) ?_ | refine A_cl rfl rfl Try.func77 rfl (c3) ?_ | refine A_cl rfl rfl Try.func77 rfl (c4) ?_ | refine A_cl rfl rfl Try.func77 rfl (c5) ?_ | refine A_cl rfl rfl Try.func77 rfl (c6) ?_)) | refine A_not rfl rfl _ _ rfl rfl ?_ | refine A_mt rfl rfl rfl rfl ?_ | refine A_pick rfl rfl _ _ _ rfl rfl rfl rfl rfl ?_ | refine A_load_agg rfl rfl 24 _ rfl ud24 rfl inf24 rfl rfl (us' := [_, _, _, _, _, _, _, _, _, _, _]) rfl rfl ?_ | (refine kL 2506 rfl ?_; refine A_cl rfl rfl Try.func78 rfl (c7) ?_) | refine AL.nil ?_ | refine AL.skip rfl rfl ?_ | (refine AL.split 7 rfl (fun hb => ?_) (fun hb => ?_) <;> (try simp only [decide_eq_true_eq, decide_eq_false_iff_not, Bool.not_eq_true', Bool.not_eq_false'] at hb) <;> (first | refine AL.skip rfl rfl ?_ | refine AL.need rfl ?_)) | (refine AL.split 13 rfl (fun hb => ?_) (fun hb => ?_) <;> (try simp only [decide_eq_true_eq, decide_eq_false_iff_not, Bool.not_eq_true', Bool.not_eq_false'] at hb) <;> (first | refine AL.skip rfl rfl ?_ | refine AL.need rfl ?_)) | (refine AL.split 19 rfl (fun hb => ?_) (fun hb => ?_) <;> (try simp only [decide_eq_true_eq, decide_eq_false_iff_not, Bool.not_eq_true', Bool.not_eq_false'] at hb) <;> (first | refine AL.skip rfl rfl ?_ | refine AL.need rfl ?_)) | (refine AL.split 25 rfl (fun hb => ?_) (fun hb => ?_) <;> (try simp only [decide_eq_true_eq, decide_eq_false_iff_not, Bool.not_eq_true', Bool.not_eq_false'] at hb) <;> (first | refine AL.skip rfl rfl ?_ | refine AL.need rfl ?_)) | (refine AL.split 31 rfl (fun hb => ?_) (fun hb => ?_) <;> (try simp only [decide_eq_true_eq, decide_eq_false_iff_not, Bool.not_eq_true', Bool.not_eq_false'] at hb) <;> (first | refine AL.skip rfl rfl ?_ | refine AL.need rfl ?_)) | (refine AL.split 37 rfl (fun hb => ?_) (fun hb => ?_) <;> (try simp only [decide_eq_true_eq, decide_eq_false_iff_not, Bool.not_eq_true', Bool.not_eq_false'] at hb) <;> (first | refine AL.skip rfl rfl ?_ | refine AL.need rfl ?_)))) | with_reducible refine AW.at_region _ ?_ | (with_reducible (first | refine wk0 ?_ | refine wk2 ?_ | refine wk3 ?_ | refine wk9 ?_ | refine wkb ?_ | refine wkd ?_)) | refine kct rfl ?_ | refine kcb rfl (fun hc => ?_) (fun hc => ?_))
  all_goals first | (exfalso; omega) | (refine Fin.q Try.results13 (.cons (.tmp rfl) .nil) [] (hr := (.t ?_)))
  all_goals first | (simp [*]; done) | (simp_all; done) | skip
end Go.Proofs.Ytijaphlmomcbfaa
