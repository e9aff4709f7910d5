/- stopgateplain.Cases. -/
import Derived.Test.YtkichjejadkdgaaTData
import Derived.Test.YtkichjejadkdgaaTEq
import Derived.Test.YtkichjejadkdgaaTPlain
namespace Go.Proofs.Ytkichjejadkdgaa
set_option linter.unusedVariables false
set_option linter.unusedSimpArgs false
set_option linter.unnecessarySimpa false
open Go.RowKit
attribute [local irreducible] AL AW RG Fin C Cd Cio thenQ blockQ retQ
set_option maxRecDepth 100000
theorem DCase_ext {a b : DCase} (h : a.dir = b.dir ∧ a.handle = b.handle ∧ a.value = b.value) : a = b := by
  obtain ⟨a1, a2, a3⟩ := a; obtain ⟨b1, b2, b3⟩ := b; simp only at h; rw [h.1, h.2.1, h.2.2]
set_option maxHeartbeats 4000000 in
theorem cases_c (a b : List DCase) (ha : a.length ≤ 1152921504606846976) : Cd Try.prog 88 [.ln (a.map tCs), .ln (b.map tCs)] (bo (decide (a = b))) [] := by
  have h1 : (a.map tCs).length = a.length := List.length_map _
  have h2 : (b.map tCs).length = b.length := List.length_map _
  first | refine Cd.enter' Try.func88 rfl Try.ntmps88 rfl ?_ | refine Cio.enter' Try.func88 rfl Try.ntmps88 rfl (by simp only [List.length_cons, List.length_nil, Nat.zero_add, Nat.reduceAdd]; rfl) ?_ | refine C.enter' Try.func88 rfl Try.ntmps88 rfl (by simp only [List.length_cons, List.length_nil, Nat.zero_add, Nat.reduceAdd]; rfl) ?_
  repeat' (first | with_reducible refine AW.seq ?_ | with_reducible refine AW.block ?_ | with_reducible refine thenQ_n ?_ | with_reducible refine thenQ_r ?_ | with_reducible refine retQ_r ?_ | with_reducible refine AW.ret ?_ | with_reducible refine AW.skip ?_ | (refine AW.cond rfl (fun hc => ?_) (fun hc => ?_) <;> (try simp only [decide_eq_true_eq, decide_eq_false_iff_not, Bool.not_eq_true', Bool.not_eq_false'] at hc) <;> (try contradiction)) | ((with_reducible refine AW.at_region 0 ?_); (refine A_move rfl rfl _ (.inr rfl) (y := .t _) rfl ?_ <;> try refine AL.nil ?_)) | ((with_reducible refine AW.at_region 1 ?_); (refine A_move rfl rfl _ (.inl rfl) (y := .ln _) rfl ?_ <;> try (refine A_len rfl rfl _ _ rfl Try.underlying48 rfl ?_ <;> try (refine A_move rfl rfl _ (.inl rfl) (y := .ln _) rfl ?_ <;> try (refine A_len rfl rfl _ _ rfl Try.underlying48 rfl ?_ <;> try (refine A_cmp rfl rfl _ _ _ _ _ rfl rfl rfl rfl ?_ <;> try refine AL.nil ?_)))))) | ((with_reducible refine AW.at_region 2 ?_); (refine A_move rfl rfl _ (.inr rfl) (y := .t _) rfl ?_ <;> try refine AL.nil ?_)) | ((with_reducible refine AW.at_region 3 ?_); (refine A_move rfl rfl _ (.inl rfl) (y := .ln _) rfl ?_ <;> try (refine A_len rfl rfl _ _ rfl Try.underlying48 rfl ?_ <;> try (refine A_move rfl rfl _ (.inl rfl) (y := .t _) rfl ?_ <;> try refine AL.nil ?_)))))
  · refine Fin.mkv (rs := _) Try.results88 (.cons (.tmp rfl) .nil) [] (by decide) rfl ?_ ?_ ?_ <;> repeat' (first | exact .nil | refine .cons rfl ?_ ?_ | refine .cons ?_ ?_ | refine .row ?_ | refine .rset ?_ | refine .box ?_ | exact .gone | refine .aggL ?_ | refine .tupL ?_ | refine .old rfl ?_ | refine .new rfl rfl rfl ?_ | exact .nl | exact .optr rfl | exact .nptr rfl rfl rfl | refine .t ?_ | exact .any _ | rfl)
    have : a ≠ b := by rintro rfl; exact hc rfl
    simp [this]
  · refine AW.loopP (fun (i : Nat) => ∀ j, j < i → a.getD j default = b.getD j default) (fun (i : Nat) => (pu (pu (pu (pu (pu (fun _ => .any) 0 (.ln (a.map tCs))) 1 (.ln (b.map tCs))) 4 (bo false)) 12 (i64 (a.map tCs).length)) 13 (i64 i))) (fun (i : Nat) => []) (fun (i : Nat) => a.length + 1 - i) (0) ?_ ?_ ?_
    · intro j hj; omega
    · refine Wk.cut2 0 (Nat.le_of_ble_eq_true rfl) rfl ?_; repeat' (first | exact Fk.nil | refine Fk.pu ?_ ?_ | rfl | exact hup)
    · intro i hi
      repeat' (first | with_reducible refine AW.seq ?_ | with_reducible refine AW.block ?_ | with_reducible refine thenQ_n ?_ | with_reducible refine thenQ_r ?_ | with_reducible refine thenQ_e ?_ | with_reducible refine blockQ_n ?_ | with_reducible refine blockQ_r ?_ | with_reducible refine blockQ_e0 ?_ | with_reducible refine retQ_r ?_ | with_reducible refine AW.ret ?_ | with_reducible refine AW.exit ?_ | with_reducible refine AW.skip ?_ | (refine AW.cond rfl (fun hc => ?_) (fun hc => ?_) <;> (try simp only [decide_eq_true_eq, decide_eq_false_iff_not, Bool.not_eq_true', Bool.not_eq_false'] at hc) <;> (try contradiction)) | ((with_reducible refine AW.at_region 4 ?_); (refine A_cmp rfl rfl _ _ _ _ _ rfl rfl rfl rfl ?_ <;> try refine AL.nil ?_)) | ((with_reducible refine AW.at_region 5 ?_); (refine A_move rfl rfl _ (.inl rfl) (y := .t _) rfl ?_ <;> try (refine A_move rfl rfl _ (.inr rfl) (y := .t _) rfl ?_ <;> try refine AL.nil ?_))) | (refine AW.at_draw 6 mixed 0 [[], [], [0, 1], [0, 1, 2], [], [], [4, 5], [4, 5, 6], [0, 1, 2, 3, 4, 5, 6, 7]] (by simp only [List.replicate_succ, List.replicate_zero, List.cons_append, List.nil_append]; rfl) ?_; (refine R_move rfl rfl _ (.inl rfl) (y := .ln _) rfl ?_; try (refine R_move rfl rfl _ (.inl rfl) (y := .t _) rfl ?_; try (refine R_idx rfl rfl _ _ _ rfl Try.underlying48 inf61 (by decide) (by exact .inl rfl) rfl (by omega) _ (by with_reducible exact Int.toNat_natCast _) (by exact map_get (get_D (x := (default : DCase)) (by omega))) rfl (cs' := [_, _, _]) rfl ?_; try (refine R_load_lp_agg rfl rfl _ _ rfl Try.underlying61 rfl inf61 rfl (us' := [_, _, _]) rfl rfl ?_; try (refine R_move rfl rfl _ (.inl rfl) (y := .ln _) rfl ?_; try (refine R_move rfl rfl _ (.inl rfl) (y := .t _) rfl ?_; try (refine R_idx rfl rfl _ _ _ rfl Try.underlying48 inf61 (by decide) (by exact .inl rfl) rfl (by omega) _ (by with_reducible exact Int.toNat_natCast _) (by exact map_get (get_D (x := (default : DCase)) (by omega))) rfl (cs' := [_, _, _]) rfl ?_; try (refine R_load_lp_agg rfl rfl _ _ rfl Try.underlying61 rfl inf61 rfl (us' := [_, _, _]) rfl rfl ?_; try (refine R_nes rfl rfl _ _ _ _ rfl rfl rfl (by kernel_rfl) (fun w => eqs61 9998 _ _ _ _ _ _ w) (by rfl) ?_; try refine RG.nil ⟨by kernel_rfl, ?_⟩)))))))))) | ((with_reducible refine AW.at_region 7 ?_); (refine A_move rfl rfl _ (.inr rfl) (y := .t _) rfl ?_ <;> try refine AL.nil ?_)) | ((with_reducible refine AW.at_region 8 ?_); (refine A_add rfl rfl _ _ _ _ rfl rfl rfl (by exact IntWalk.i64_in _ (by omega)) ?_ <;> try (refine A_move rfl rfl _ (.inl rfl) (y := .t _) rfl ?_ <;> try refine AL.nil ?_))) | ((with_reducible refine AW.at_region 9 ?_); (refine A_move rfl rfl _ (.inr rfl) (y := .t _) rfl ?_ <;> try refine AL.nil ?_)))
      · refine Fin.mkv (rs := _) Try.results88 (.cons (.tmp rfl) .nil) [] (by decide) rfl ?_ ?_ ?_ <;> repeat' (first | exact .nil | refine .cons rfl ?_ ?_ | refine .cons ?_ ?_ | refine .row ?_ | refine .rset ?_ | refine .box ?_ | exact .gone | refine .aggL ?_ | refine .tupL ?_ | refine .old rfl ?_ | refine .new rfl rfl rfl ?_ | exact .nl | exact .optr rfl | exact .nptr rfl rfl rfl | refine .t ?_ | exact .any _ | rfl)
        have : a ≠ b := by
          rintro rfl; exact absurd hc (by simp)
        simp [this]
      · refine ⟨i + 1, fun j hj => ?_, by omega, ?_⟩
        · by_cases e : j = i
          · subst e; exact DCase_ext (by simpa using hc)
          · exact hi j (by omega)
        · refine Wk.cut2 0 (Nat.le_of_ble_eq_true rfl) rfl ?_; repeat' (first | exact Fk.nil | refine Fk.pu ?_ ?_ | rfl | exact hup)
      · refine Fin.mkv (rs := _) Try.results88 (.cons (.tmp rfl) .nil) [] (by decide) rfl ?_ ?_ ?_ <;> repeat' (first | exact .nil | refine .cons rfl ?_ ?_ | refine .cons ?_ ?_ | refine .row ?_ | refine .rset ?_ | refine .box ?_ | exact .gone | refine .aggL ?_ | refine .tupL ?_ | refine .old rfl ?_ | refine .new rfl rfl rfl ?_ | exact .nl | exact .optr rfl | exact .nptr rfl rfl rfl | refine .t ?_ | exact .any _ | rfl)
        have : a = b := all_eq (z := default) (by omega) fun j hj => hi j (by omega)
        simp [this]
end Go.Proofs.Ytkichjejadkdgaa
