/- stopgateplain.Cases. -/
import Derived.Test.YtijaphlmomcbfaaTData
import Derived.Test.YtijaphlmomcbfaaTEq
import Derived.Test.YtijaphlmomcbfaaTPlain
namespace Go.Proofs.Ytijaphlmomcbfaa
set_option linter.unusedVariables false
set_option linter.unusedSimpArgs false
set_option linter.unnecessarySimpa false
open Go.RowKit
set_option maxHeartbeats 32000000
attribute [local irreducible] AL AW RG Fin C Cd Cio thenQ blockQ retQ
set_option maxRecDepth 100000
theorem DCase_ext {a b : DCase} (h : a.dir = b.dir ∧ a.handle = b.handle ∧ a.value = b.value) : a = b := by
  obtain ⟨a1, a2, a3⟩ := a; obtain ⟨b1, b2, b3⟩ := b; simp only at h; rw [h.1, h.2.1, h.2.2]
set_option maxHeartbeats 4000000 in
theorem cases_c (a b : List DCase) (ha : a.length ≤ 1152921504606846976) : Cd Try.prog 150 [.ln (a.map tCs), .ln (b.map tCs)] (bo (decide (a = b))) [] := by
  have h1 : (a.map tCs).length = a.length := List.length_map _
  have h2 : (b.map tCs).length = b.length := List.length_map _
  refine Cd.enter' Try.func150 rfl Try.ntmps150 rfl ?_
  repeat' (first | ((with_reducible refine kAL ?_); (first | refine A_as rfl rfl rfl rfl ?_ | (refine kL 0 rfl ?_; (first | refine A_mt rfl rfl rfl rfl ?_ | refine A_move rfl rfl _ (.inl rfl) (y := .ln _) rfl ?_)) | refine A_len rfl rfl 90 _ rfl ud90 rfl ?_ | refine A_cmp (d := 10) rfl rfl .neq 3 3 _ _ rfl rfl rfl rfl ?_ | refine AL.nil ?_)) | (with_reducible (first | refine wk0 ?_ | refine wk1 ?_ | refine wk2 ?_ | refine wk3 ?_ | refine wk9 ?_ | refine wkb ?_ | refine wkd ?_)) | refine kcp rfl (fun hc => ?_) (fun hc => ?_) | with_reducible refine AW.at_region _ ?_)
  · refine Fin.q Try.results150 (.cons (.tmp rfl) .nil) [] (hr := (.t ?_))
    have : a ≠ b := by rintro rfl; exact hc rfl
    simp [this]
  · refine AW.loopP (fun (i : Nat) => ∀ j, j < i → a.getD j default = b.getD j default) (fun (i : Nat) => (pu (pu (pu (pu (pu (fun _ => .any) 0 (.ln (a.map tCs))) 1 (.ln (b.map tCs))) 4 (bo false)) 12 (i64 (a.map tCs).length)) 13 (i64 i))) (fun (i : Nat) => []) (fun (i : Nat) => a.length + 1 - i) (0) ?_ ?_ ?_
    · intro j hj; omega
    · exact Wk.cq 0
    · intro i hi
      repeat' (first | ((with_reducible refine kAL ?_); (first | refine A_as rfl rfl rfl rfl ?_ | refine A_mt rfl rfl rfl rfl ?_ | (refine kL 105 rfl ?_; (first | refine A_add rfl rfl 3 3 _ _ rfl rfl rfl (by first | exact wi | rfl) ?_ | refine A_cmp (d := 14) rfl rfl .lss 3 3 _ _ rfl rfl rfl rfl ?_)) | refine AL.nil ?_)) | ((with_reducible refine kRG ?_); (first | (refine kR 0 rfl ?_; (first | refine R_mt rfl rfl rfl rfl ?_ | refine R_move rfl rfl _ (.inl rfl) (y := .ln _) rfl ?_)) | (refine kR 2886 rfl ?_; refine R_idx rfl rfl 90 _ _ rfl ud90 inf105 (by decide) (by exact .inl rfl) rfl (by omega) _ (by with_reducible exact Int.toNat_natCast _) (by exact map_get (get_D (x := (default : DCase)) (by omega))) rfl (cs' := [_, _, _]) rfl ?_) | refine R_load_lp_agg rfl rfl 105 _ rfl ud105 rfl inf105 rfl (us' := [_, _, _]) rfl rfl ?_ | (refine kR 3369 rfl ?_; (refine R_nes rfl rfl 105 105 _ _ rfl rfl rfl (by kernel_rfl) (fun w => eqs105 9998 _ _ _ _ _ _ w) (by rfl) ?_)) | refine RG.nil ⟨by kernel_rfl, ?_⟩)) | (with_reducible (first | refine wk0 ?_ | refine wk1 ?_ | refine wk2 ?_ | refine wk3 ?_ | refine wk4 ?_ | refine wk5 ?_ | refine wk6 ?_ | refine wk7 ?_ | refine wk9 ?_ | refine wkb ?_ | refine wkc ?_ | refine wkd ?_)) | refine kcp rfl (fun hc => ?_) (fun hc => ?_) | refine kcn rfl (fun hc => ?_) (fun hc => ?_) | with_reducible refine AW.at_region _ ?_ | refine AW.at_draw 6 mixed 0 [[], [], [0, 1], [0, 1, 2], [], [], [4, 5], [4, 5, 6], [0, 1, 2, 3, 4, 5, 6, 7]] qR ?_)
      · refine Fin.q Try.results150 (.cons (.tmp rfl) .nil) [] (hr := (.t ?_))
        have : a ≠ b := by
          rintro rfl; exact absurd hc (by simp)
        simp [this]
      · refine ⟨i + 1, fun j hj => ?_, by omega, ?_⟩
        · by_cases e : j = i
          · subst e; exact DCase_ext (by simpa using hc)
          · exact hi j (by omega)
        · exact Wk.cq 0
      · refine Fin.q Try.results150 (.cons (.tmp rfl) .nil) [] (hr := (.t ?_))
        have : a = b := all_eq (z := default) (by omega) fun j hj => hi j (by omega)
        simp [this]
end Go.Proofs.Ytijaphlmomcbfaa
