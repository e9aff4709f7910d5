/- stopgateplain.Has: whether a number is in a row. -/
import Derived.Test.YtdneipibbdadcaaTEnc
namespace Go.Proofs.Ytdneipibbdadcaa
set_option linter.unusedVariables false
set_option linter.unusedSimpArgs false
set_option linter.unnecessarySimpa false
open Go.RowKit
attribute [local irreducible] AL AW RG Fin C Cd Cio thenQ blockQ retQ
set_option maxRecDepth 100000
theorem has_c (l : List Int) (x : Int) (hl : l.length ≤ 1152921504606846976) : Cd Try.prog 50 [.ln (l.map tI), i64 x] (bo (decide (x ∈ l))) [] := by
  have h1 : (l.map tI).length = l.length := List.length_map _
  first | refine Cd.enter' Try.func50 rfl Try.ntmps50 rfl ?_ | refine Cio.enter' Try.func50 rfl Try.ntmps50 rfl (by simp only [List.length_cons, List.length_nil, Nat.zero_add, Nat.reduceAdd]; rfl) ?_ | refine C.enter' Try.func50 rfl Try.ntmps50 rfl (by simp only [List.length_cons, List.length_nil, Nat.zero_add, Nat.reduceAdd]; rfl) ?_
  repeat' (first | with_reducible refine AW.seq ?_ | with_reducible refine AW.block ?_ | with_reducible refine thenQ_n ?_ | ((with_reducible refine AW.at_region 0 ?_); (refine A_move rfl rfl _ (.inr rfl) (y := .t _) rfl ?_ <;> try refine AL.nil ?_)) | ((with_reducible refine AW.at_region 1 ?_); (refine A_move rfl rfl _ (.inl rfl) (y := .ln _) rfl ?_ <;> try (refine A_len rfl rfl _ _ rfl Try.underlying22 rfl ?_ <;> try (refine A_move rfl rfl _ (.inl rfl) (y := .t _) rfl ?_ <;> try refine AL.nil ?_)))))
  refine AW.loopP (fun (i : Nat) => i ≤ l.length ∧ x ∉ l.take i) (fun (i : Nat) => (pu (pu (pu (pu (pu (fun _ => .any) 1 (i64 x)) 4 (bo false)) 7 (.ln (l.map tI))) 8 (i64 (l.map tI).length)) 9 (i64 i))) (fun (i : Nat) => []) (fun (i : Nat) => l.length - i) (0) ?_ ?_ ?_
  · exact ⟨Nat.zero_le _, by simp⟩
  · refine Wk.cut2 0 (Nat.le_of_ble_eq_true rfl) rfl ?_; repeat' (first | exact Fk.nil | refine Fk.pu ?_ ?_ | rfl | exact hup)
  · rintro i ⟨h2, h3⟩
    by_cases hi : i < l.length
    · obtain ⟨a, ha⟩ : ∃ a, l[i]? = some a := ⟨_, List.getElem?_eq_getElem hi⟩
      repeat' (first | with_reducible refine AW.seq ?_ | with_reducible refine AW.block ?_ | with_reducible refine thenQ_n ?_ | with_reducible refine thenQ_r ?_ | with_reducible refine blockQ_n ?_ | with_reducible refine blockQ_r ?_ | with_reducible refine retQ_r ?_ | with_reducible refine AW.ret ?_ | with_reducible refine AW.skip ?_ | (refine AW.cond rfl (fun hc => ?_) (fun hc => ?_) <;> (try simp only [decide_eq_true_eq, decide_eq_false_iff_not, Bool.not_eq_true', Bool.not_eq_false'] at hc) <;> (try contradiction)) | ((with_reducible refine AW.at_region 2 ?_); (refine A_cmp rfl rfl (c := true) _ _ _ _ _ rfl rfl rfl qT ?_ <;> try refine AL.nil ?_)) | ((with_reducible refine AW.at_region 3 ?_); (refine A_idx rfl rfl _ _ _ rfl Try.underlying22 inf3 (by decide) (by exact .inl rfl) rfl (by omega) _ (by with_reducible exact Int.toNat_natCast _) (by exact map_get (by assumption)) rfl (cs' := [_]) rfl ?_ <;> try (refine A_load_lp rfl rfl _ _ rfl Try.underlying3 rfl rfl rfl ?_ <;> try (refine A_move rfl rfl _ (.inr rfl) (y := .t _) rfl ?_ <;> try refine AL.nil ?_)))) | ((with_reducible refine AW.at_region 4 ?_); (refine A_move rfl rfl _ (.inl rfl) (y := .t _) rfl ?_ <;> try (refine A_move rfl rfl _ (.inl rfl) (y := .t _) rfl ?_ <;> try (refine A_cmp rfl rfl _ _ _ _ _ rfl rfl rfl rfl ?_ <;> try refine AL.nil ?_)))) | ((with_reducible refine AW.at_region 5 ?_); (refine A_move rfl rfl _ (.inr rfl) (y := .t _) rfl ?_ <;> try refine AL.nil ?_)) | ((with_reducible refine AW.at_region 6 ?_); (refine A_add rfl rfl _ _ _ _ rfl rfl rfl (by exact IntWalk.i64_in _ (by omega)) ?_ <;> try (refine A_move rfl rfl _ (.inl rfl) (y := .t _) rfl ?_ <;> try refine AL.nil ?_))))
      all_goals first | (exfalso; omega) | skip
      · refine Fin.mkv (rs := _) Try.results50 (.cons (.tmp rfl) .nil) [] (by decide) rfl ?_ ?_ ?_ <;> repeat' (first | exact .nil | refine .cons rfl ?_ ?_ | refine .cons ?_ ?_ | refine .row ?_ | refine .rset ?_ | refine .box ?_ | exact .gone | refine .aggL ?_ | refine .tupL ?_ | refine .old rfl ?_ | refine .new rfl rfl rfl ?_ | exact .nl | exact .optr rfl | exact .nptr rfl rfl rfl | refine .t ?_ | exact .any _ | rfl)
        have : x ∈ l := by rw [← hc]; exact List.mem_of_getElem? ha
        simp [this]
      · refine ⟨i + 1, ⟨by omega, ?_⟩, by omega, ?_⟩
        · rw [List.take_add_one, ha]
          simp only [Option.toList_some, List.mem_append, List.mem_singleton, not_or]
          exact ⟨h3, fun e => hc e.symm⟩
        · refine Wk.cut2 0 (Nat.le_of_ble_eq_true rfl) rfl ?_; repeat' (first | exact Fk.nil | refine Fk.pu ?_ ?_ | rfl | exact hup)
    · have e : i = l.length := by omega
      subst e
      rw [List.take_length] at h3
      repeat' (first | with_reducible refine AW.seq ?_ | with_reducible refine thenQ_n ?_ | with_reducible refine thenQ_e ?_ | with_reducible refine blockQ_e0 ?_ | with_reducible refine retQ_r ?_ | with_reducible refine AW.ret ?_ | with_reducible refine AW.exit ?_ | (refine AW.cond rfl (fun hc => ?_) (fun hc => ?_) <;> (try simp only [decide_eq_true_eq, decide_eq_false_iff_not, Bool.not_eq_true', Bool.not_eq_false'] at hc) <;> (try contradiction)) | ((with_reducible refine AW.at_region 2 ?_); (refine A_cmp rfl rfl (c := false) _ _ _ _ _ rfl rfl rfl qF ?_ <;> try refine AL.nil ?_)) | ((with_reducible refine AW.at_region 7 ?_); (refine A_move rfl rfl _ (.inr rfl) (y := .t _) rfl ?_ <;> try refine AL.nil ?_)))
      all_goals first | (exfalso; omega) | (refine Fin.mkv (rs := _) Try.results50 (.cons (.tmp rfl) .nil) [] (by decide) rfl ?_ ?_ ?_ <;> repeat' (first | exact .nil | refine .cons rfl ?_ ?_ | refine .cons ?_ ?_ | refine .row ?_ | refine .rset ?_ | refine .box ?_ | exact .gone | refine .aggL ?_ | refine .tupL ?_ | refine .old rfl ?_ | refine .new rfl rfl rfl ?_ | exact .nl | exact .optr rfl | exact .nptr rfl rfl rfl | refine .t ?_ | exact .any _ | rfl))
      simp [h3]
end Go.Proofs.Ytdneipibbdadcaa
