/- stopgateplain: parts that are held against each other. -/
import Derived.Test.YtijaphlmomcbfaaTEnc
namespace Go.Proofs.Ytijaphlmomcbfaa
set_option linter.unusedVariables false
set_option linter.unusedSimpArgs false
set_option linter.unnecessarySimpa false
open Go.RowKit
set_option maxHeartbeats 32000000
attribute [local irreducible] AL AW RG Fin C Cd Cio thenQ blockQ retQ
set_option maxRecDepth 100000
theorem res_c (a b : Rst) : Cd Try.prog 134 [.agg ((tR a).map .t), .agg ((tR b).map .t)] (.t (.v (.bool (decide (a = b))))) [] := by
  obtain ⟨a1, a2, a3, a4⟩ := a
  obtain ⟨b1, b2, b3, b4⟩ := b
  simp only [tR, List.map_cons, List.map_nil]
  refine Cd.enter' Try.func134 rfl Try.ntmps134 rfl ?_
  repeat' (first | ((with_reducible refine kAL ?_); (first | refine A_box rfl rfl 107 _ rfl rfl (.push qL qN) ?_ | refine A_as rfl rfl rfl rfl ?_ | (refine kL 3428 rfl ?_; (first | refine A_field rfl rfl 107 _ 0 rfl ud107 rfl inf3 (by decide) 0 rfl rfl ?_ | refine A_field rfl rfl 107 _ 1 rfl ud107 rfl inf3 (by decide) 1 rfl rfl ?_ | refine A_field rfl rfl 107 _ 2 rfl ud107 rfl inf25 (by decide) 2 rfl rfl ?_ | refine A_field rfl rfl 107 _ 3 rfl ud107 rfl inf3 (by decide) 3 rfl rfl ?_)) | refine A_load rfl rfl 3 _ rfl ud3 rfl rfl rfl rfl ?_ | (refine kL 105 rfl ?_; (first | refine A_cmp (d := 9) rfl rfl .eql 3 3 _ _ rfl rfl rfl rfl ?_ | refine A_cmp (d := 15) rfl rfl .eql 3 3 _ _ rfl rfl rfl rfl ?_ | refine A_cmp (d := 22) rfl rfl .eql 3 3 _ _ rfl rfl rfl rfl ?_ | refine A_cmp (d := 29) rfl rfl .eql 3 3 _ _ rfl rfl rfl rfl ?_)) | refine A_mt rfl rfl rfl rfl ?_ | refine A_pick rfl rfl _ _ _ rfl rfl rfl rfl rfl ?_ | refine A_load rfl rfl 25 _ rfl ud25 rfl rfl rfl rfl ?_ | refine AL.nil ?_ | refine AL.skip rfl rfl ?_ | (refine AL.split 10 rfl (fun hb => ?_) (fun hb => ?_) <;> (try simp only [decide_eq_true_eq, decide_eq_false_iff_not, Bool.not_eq_true', Bool.not_eq_false'] at hb) <;> (first | refine AL.skip rfl rfl ?_ | refine AL.need rfl ?_)) | (refine AL.split 17 rfl (fun hb => ?_) (fun hb => ?_) <;> (try simp only [decide_eq_true_eq, decide_eq_false_iff_not, Bool.not_eq_true', Bool.not_eq_false'] at hb) <;> (first | refine AL.skip rfl rfl ?_ | refine AL.need rfl ?_)) | (refine AL.split 24 rfl (fun hb => ?_) (fun hb => ?_) <;> (try simp only [decide_eq_true_eq, decide_eq_false_iff_not, Bool.not_eq_true', Bool.not_eq_false'] at hb) <;> (first | refine AL.skip rfl rfl ?_ | refine AL.need rfl ?_)))) | with_reducible refine AW.at_region _ ?_ | (with_reducible (first | refine wk0 ?_ | refine wk2 ?_ | refine wk9 ?_ | refine wkb ?_)))
  all_goals refine Fin.q Try.results134 (.cons (.tmp rfl) .nil) [] (hr := (.t ?_))
  all_goals simp [*]
theorem ints_c (a b : List Int) (ha : a.length ≤ 1152921504606846976) : Cd Try.prog 68 [.ln (a.map tI), .ln (b.map tI)] (.t (.v (.bool (decide (a = b))))) [] := by
  have h1 : (a.map tI).length = a.length := List.length_map _
  have h2 : (b.map tI).length = b.length := List.length_map _
  refine Cd.enter' Try.func68 rfl Try.ntmps68 rfl ?_
  repeat' (first | ((with_reducible refine kAL ?_); (first | refine A_as rfl rfl rfl rfl ?_ | (refine kL 0 rfl ?_; (first | refine A_mt rfl rfl rfl rfl ?_ | refine A_move rfl rfl _ (.inl rfl) (y := .ln _) rfl ?_)) | refine A_len rfl rfl 22 _ rfl ud22 rfl ?_ | refine A_cmp (d := 10) rfl rfl .neq 3 3 _ _ rfl rfl rfl rfl ?_ | refine AL.nil ?_)) | (with_reducible (first | refine wk0 ?_ | refine wk1 ?_ | refine wk2 ?_ | refine wk3 ?_ | refine wk9 ?_ | refine wkb ?_ | refine wkd ?_)) | refine kcp rfl (fun hc => ?_) (fun hc => ?_) | with_reducible refine AW.at_region _ ?_)
  · refine Fin.q Try.results68 (.cons (.tmp rfl) .nil) [] (hr := (.t ?_))
    have : a ≠ b := by rintro rfl; exact hc rfl
    simp [this]
  · refine AW.loopP (fun (i : Nat) => ∀ j, j < i → a.getD j 0 = b.getD j 0) (fun (i : Nat) => (pu (pu (pu (pu (pu (fun _ => .any) 0 (.ln (a.map tI))) 1 (.ln (b.map tI))) 4 (.t (.v (.bool false)))) 12 (i64 (a.map tI).length)) 13 (i64 i))) (fun (i : Nat) => []) (fun (i : Nat) => a.length + 1 - i) (0) ?_ ?_ ?_
    · intro j hj; omega
    · exact Wk.cq 0
    · intro i hi
      repeat' (first | ((with_reducible refine kAL ?_); (first | refine A_as rfl rfl rfl rfl ?_ | refine A_mt rfl rfl rfl rfl ?_ | (refine kL 105 rfl ?_; (first | refine A_add rfl rfl 3 3 _ _ rfl rfl rfl (by first | exact wi | rfl) ?_ | refine A_cmp (d := 14) rfl rfl .lss 3 3 _ _ rfl rfl rfl rfl ?_)) | refine AL.nil ?_)) | ((with_reducible refine kRG ?_); (first | (refine kR 0 rfl ?_; (first | refine R_mt rfl rfl rfl rfl ?_ | refine R_move rfl rfl _ (.inl rfl) (y := .ln _) rfl ?_)) | (refine kR 710 rfl ?_; refine R_idx rfl rfl 22 _ _ rfl ud22 inf3 (by decide) (by exact .inl rfl) rfl (by omega) _ (by with_reducible exact Int.toNat_natCast _) (by exact map_get (get_D (x := 0) (by omega))) rfl (cs' := [_]) rfl ?_) | refine R_load_lp rfl rfl 3 _ rfl ud3 rfl rfl rfl ?_ | refine R_cmp (d := 24) rfl rfl .neq 3 3 _ _ rfl rfl rfl rfl ?_ | refine RG.nil ⟨by kernel_rfl, ?_⟩)) | (with_reducible (first | refine wk0 ?_ | refine wk1 ?_ | refine wk2 ?_ | refine wk3 ?_ | refine wk4 ?_ | refine wk5 ?_ | refine wk6 ?_ | refine wk7 ?_ | refine wk9 ?_ | refine wkb ?_ | refine wkc ?_ | refine wkd ?_)) | refine kcp rfl (fun hc => ?_) (fun hc => ?_) | with_reducible refine AW.at_region _ ?_ | refine AW.at_draw 6 mixed 0 [[], [], [0, 1], [0, 1, 2], [], [], [4, 5], [4, 5, 6], [0, 1, 2, 3, 4, 5, 6, 7]] qR ?_)
      · refine Fin.q Try.results68 (.cons (.tmp rfl) .nil) [] (hr := (.t ?_))
        have : a ≠ b := by rintro rfl; exact hc rfl
        simp [this]
      · refine ⟨i + 1, fun j hj => ?_, by omega, ?_⟩
        · by_cases e : j = i
          · subst e; exact Decidable.not_not.1 hc
          · exact hi j (by omega)
        · exact Wk.cq 0
      · refine Fin.q Try.results68 (.cons (.tmp rfl) .nil) [] (hr := (.t ?_))
        have : a = b := all_eq (z := 0) (by omega) fun j hj => hi j (by omega)
        simp [this]
theorem results_c (a b : List Rst) (ha : a.length ≤ 1152921504606846976) : Cd Try.prog 71 [.ln (a.map tR), .ln (b.map tR)] (.t (.v (.bool (decide (a = b))))) [] := by
  have h1 : (a.map tR).length = a.length := List.length_map _
  have h2 : (b.map tR).length = b.length := List.length_map _
  refine Cd.enter' Try.func71 rfl Try.ntmps71 rfl ?_
  repeat' (first | ((with_reducible refine kAL ?_); (first | refine A_as rfl rfl rfl rfl ?_ | (refine kL 0 rfl ?_; (first | refine A_mt rfl rfl rfl rfl ?_ | refine A_move rfl rfl _ (.inl rfl) (y := .ln _) rfl ?_)) | refine A_len rfl rfl 32 _ rfl ud32 rfl ?_ | refine A_cmp (d := 10) rfl rfl .neq 3 3 _ _ rfl rfl rfl rfl ?_ | refine AL.nil ?_)) | (with_reducible (first | refine wk0 ?_ | refine wk1 ?_ | refine wk2 ?_ | refine wk3 ?_ | refine wk9 ?_ | refine wkb ?_ | refine wkd ?_)) | refine kcp rfl (fun hc => ?_) (fun hc => ?_) | with_reducible refine AW.at_region _ ?_)
  · refine Fin.q Try.results71 (.cons (.tmp rfl) .nil) [] (hr := (.t ?_))
    have : a ≠ b := by rintro rfl; exact hc rfl
    simp [this]
  · refine AW.loopP (fun (i : Nat) => ∀ j, j < i → a.getD j ⟨0, 0, 0, 0⟩ = b.getD j ⟨0, 0, 0, 0⟩) (fun (i : Nat) => (pu (pu (pu (pu (pu (fun _ => .any) 0 (.ln (a.map tR))) 1 (.ln (b.map tR))) 4 (.t (.v (.bool false)))) 12 (i64 (a.map tR).length)) 13 (i64 i))) (fun (i : Nat) => []) (fun (i : Nat) => a.length + 1 - i) (0) ?_ ?_ ?_
    · intro j hj; omega
    · exact Wk.cq 0
    · intro i hi
      repeat' (first | ((with_reducible refine kAL ?_); (first | refine A_as rfl rfl rfl rfl ?_ | refine A_mt rfl rfl rfl rfl ?_ | (refine kL 105 rfl ?_; (first | refine A_add rfl rfl 3 3 _ _ rfl rfl rfl (by first | exact wi | rfl) ?_ | refine A_cmp (d := 14) rfl rfl .lss 3 3 _ _ rfl rfl rfl rfl ?_)) | refine AL.nil ?_)) | ((with_reducible refine kRG ?_); (first | (refine kR 0 rfl ?_; (first | refine R_mt rfl rfl rfl rfl ?_ | refine R_move rfl rfl _ (.inl rfl) (y := .ln _) rfl ?_)) | (refine kR 1030 rfl ?_; refine R_idx rfl rfl 32 _ _ rfl ud32 inf107 (by decide) (by exact .inl rfl) rfl (by omega) _ (by with_reducible exact Int.toNat_natCast _) (by exact map_get (get_D (x := ⟨0, 0, 0, 0⟩) (by omega))) rfl (cs' := [_, _, _, _]) rfl ?_) | refine R_load_lp_agg rfl rfl 107 _ rfl ud107 rfl inf107 rfl (us' := [_, _, _, _]) rfl rfl ?_ | (refine kR 4298 rfl ?_; (refine R_cl rfl rfl Try.func134 rfl (res_c (a.getD i ⟨0, 0, 0, 0⟩) (b.getD i ⟨0, 0, 0, 0⟩)) ?_; refine ⟨0, _, _, _, rfl, qU, qU, qZ, ?_⟩)) | refine R_not rfl rfl _ _ rfl rfl ?_ | refine RG.nil ⟨by kernel_rfl, ?_⟩)) | (with_reducible (first | refine wk0 ?_ | refine wk1 ?_ | refine wk2 ?_ | refine wk3 ?_ | refine wk4 ?_ | refine wk5 ?_ | refine wk6 ?_ | refine wk7 ?_ | refine wk9 ?_ | refine wkb ?_ | refine wkc ?_ | refine wkd ?_)) | refine kcp rfl (fun hc => ?_) (fun hc => ?_) | refine kcn rfl (fun hc => ?_) (fun hc => ?_) | with_reducible refine AW.at_region _ ?_ | refine AW.at_draw 6 mixed 0 [[], [], [0, 1], [0, 1, 2], [], [], [4, 5], [4, 5, 6], [0, 1, 2, 3, 4, 5, 6, 7], [0, 1, 2, 3, 4, 5, 6, 7, 8]] qR ?_)
      · refine Fin.q Try.results71 (.cons (.tmp rfl) .nil) [] (hr := (.t ?_))
        have : a ≠ b := by rintro rfl; simp at hc
        simp [this]
      · refine ⟨i + 1, fun j hj => ?_, by omega, ?_⟩
        · by_cases e : j = i
          · subst e; simpa using hc
          · exact hi j (by omega)
        · exact Wk.cq 0
      · refine Fin.q Try.results71 (.cons (.tmp rfl) .nil) [] (hr := (.t ?_))
        have : a = b := all_eq (z := ⟨0, 0, 0, 0⟩) (by omega) fun j hj => hi j (by omega)
        simp [this]
theorem cells_c (cap cap' : Int) (a b : List Int) (d d' : List Rst) (ha : a.length ≤ 1152921504606846976) (hd : d.length ≤ 1152921504606846976) :
    Cd Try.prog 34 [.agg [i64 cap, .ln (a.map tI), .ln (d.map tR)], .agg [i64 cap', .ln (b.map tI), .ln (d'.map tR)]] (.t (.v (.bool (decide (cap = cap' ∧ a = b ∧ d = d'))))) [] := by
  refine Cd.enter' Try.func34 rfl Try.ntmps34 rfl ?_
  repeat' (first | ((with_reducible refine kAL ?_); (first | refine A_box rfl rfl 44 _ rfl rfl (.push qL qN) ?_ | refine A_as rfl rfl rfl rfl ?_ | (refine kL 1412 rfl ?_; (first | refine A_field rfl rfl 44 _ 0 rfl ud44 rfl inf3 (by decide) 0 rfl rfl ?_ | refine A_field rfl rfl 44 _ 1 rfl ud44 rfl inf22 (by decide) 1 rfl rfl ?_ | refine A_field rfl rfl 44 _ 2 rfl ud44 rfl inf32 (by decide) 2 rfl rfl ?_)) | refine A_load rfl rfl 3 _ rfl ud3 rfl rfl rfl rfl ?_ | refine A_cmp (d := 9) rfl rfl .eql 3 3 _ _ rfl rfl rfl rfl ?_ | refine A_mt rfl rfl rfl rfl ?_ | refine A_load rfl rfl 22 _ rfl ud22 rfl rfl rfl rfl ?_ | (refine kL 2186 rfl ?_; (refine A_cl rfl rfl Try.func68 rfl (ints_c _ _ ?zq0) ?_; (case zq0 => assumption))) | refine A_pick rfl rfl _ _ _ rfl rfl rfl rfl rfl ?_ | refine A_load rfl rfl 32 _ rfl ud32 rfl rfl rfl rfl ?_ | (refine kL 2282 rfl ?_; (refine A_cl rfl rfl Try.func71 rfl (results_c _ _ ?zq0) ?_; (case zq0 => assumption))) | refine AL.nil ?_ | refine AL.skip rfl rfl ?_ | (refine AL.split 10 rfl (fun hb => ?_) (fun hb => ?_) <;> (try simp only [decide_eq_true_eq, decide_eq_false_iff_not, Bool.not_eq_true', Bool.not_eq_false'] at hb) <;> (first | refine AL.skip rfl rfl ?_ | refine AL.need rfl ?_)) | (refine AL.split 17 rfl (fun hb => ?_) (fun hb => ?_) <;> (try simp only [decide_eq_true_eq, decide_eq_false_iff_not, Bool.not_eq_true', Bool.not_eq_false'] at hb) <;> (first | refine AL.skip rfl rfl ?_ | refine AL.need rfl ?_)))) | with_reducible refine AW.at_region _ ?_ | (with_reducible (first | refine wk0 ?_ | refine wk2 ?_ | refine wk9 ?_ | refine wkb ?_)))
  all_goals refine Fin.q Try.results34 (.cons (.tmp rfl) .nil) [] (hr := (.t ?_))
  all_goals simp [*]
end Go.Proofs.Ytijaphlmomcbfaa
