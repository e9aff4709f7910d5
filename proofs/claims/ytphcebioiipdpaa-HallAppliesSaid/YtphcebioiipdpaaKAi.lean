/- Joined: XTOnR, XTLaw11c, XPl, XTHallP, XTAbb, XTIoR, XTHallC, XTPlace, XTCloneR, XTHallA. -/
import Derived.Test.YtphcebioiipdpaaKAg
import Derived.Test.YtphcebioiipdpaaKAc
import Derived.Test.YtphcebioiipdpaaKAh
import Derived.Test.YtphcebioiipdpaaKAa
import Derived.Test.YtphcebioiipdpaaKAe
namespace Go.Proofs.Ytphcebioiipdpaa
set_option linter.unusedVariables false
set_option linter.unusedSimpArgs false
set_option linter.unnecessarySimpa false
open Go.RowKit
set_option maxHeartbeats 32000000
attribute [local irreducible] AL AW RG Fin C Cd Cio thenQ blockQ retQ
set_option maxRecDepth 100000
theorem insS_skip {α : Type} {key : α → Int} {x : α} : ∀ {S1 S2 : List α}, (∀ y ∈ S1, ¬ key x < key y) → insS key x (S1 ++ S2) = S1 ++ insS key x S2
  | [], _, _ => rfl
  | y :: s, S2, h => by
    simp only [List.cons_append]; rw [insS, if_neg (h y (by simp)), insS_skip fun z hz => h z (by simp [hz])]
theorem plI_isH (a : DWait) (h : Int) : plI a (isP 0 h) = plI a (isH h) := by
  have : isP 0 h = isH h := by funext c; simp [isP, isH]
  rw [this]
structure OnS where
  j : Nat
  k : Nat
  n : Nat
  M : List Int
  put : Bool
set_option maxHeartbeats 16000000 in
theorem onR_c (l : List DWait) (h : Int) (hl : okW l) : Cd Try.prog 101 [.ln (l.map tWt), i64 h] (.t (.lst ((isort (tick l) (onK l h l.length)).map tI))) [] := by
  have h0 := hl.1
  have h1 : (l.map tWt).length = l.length := List.length_map _
  first | refine Cd.enter' Try.func101 rfl Try.ntmps101 rfl ?_ | refine Cio.enter' Try.func101 rfl Try.ntmps101 rfl qM ?_ | refine C.enter' Try.func101 rfl Try.ntmps101 rfl qM ?_
  repeat' (first | ((with_reducible refine kAL ?_); (first | (refine kL 1 rfl ?_; (first | (refine A_move (d := 5) rfl rfl _ (.inr rfl) (y := .nl) rfl ?_; (try refine AL.wk (Wk.nz 5 rfl (by exact .nlt)) ?_)) | refine A_move rfl rfl _ (.inr rfl) (y := .nl) rfl ?_)) | (refine kL 0 rfl ?_; (first | refine A_mt rfl rfl rfl rfl ?_ | refine A_move rfl rfl _ (.inl rfl) (y := .ln _) rfl ?_)) | refine A_len rfl rfl 26 _ rfl ud26 rfl ?_ | refine AL.nil ?_)) | (with_reducible (first | refine wk0 ?_ | refine wk1 ?_ | refine wk2 ?_)) | with_reducible refine AW.at_region _ ?_)
  refine AW.loopP (fun (x : Nat × List Int) => x.1 ≤ l.length ∧ x.2 = isort (tick l) (onK l h x.1)) (fun (x : Nat × List Int) => (pu (pu (pu (pu (pu (pu (fun _ => .any) 0 (.ln (l.map tWt))) 1 (i64 h)) 5 (.t (.lst (x.2.map tI)))) 12 (.ln (l.map tWt))) 13 (i64 (l.map tWt).length)) 14 (i64 x.1))) (fun (x : Nat × List Int) => []) (fun (x : Nat × List Int) => l.length - x.1) ((0, [])) ?_ ?_ ?_
  · exact ⟨Nat.zero_le _, rfl⟩
  · exact Wk.cq 0
  · rintro ⟨q, O⟩ ⟨h2, h3⟩
    dsimp only at h2 h3 ⊢
    by_cases hq : q < l.length
    · obtain ⟨a, ha⟩ : ∃ a, l[q]? = some a := ⟨_, List.getElem?_eq_getElem hq⟩
      have hn := onK_next (h := h) ha
      have cP := place_c a 0 h (by have := hl.at ha; omega)
      rw [plI_isH] at cP
      have hOb : ∀ z ∈ O, 0 ≤ z ∧ z < q := fun z hz => (onK_b l h q).2 z (isort_mem.1 (by rw [← h3]; exact hz))
      have hOl : O.length ≤ q := by rw [h3, isort_len]; exact (onK_b l h q).1
      have hOt : (O.map tI).length = O.length := List.length_map _
      have hix := ixF_b (isH h) a.cases
      have hca := hl.at ha
      by_cases hon : a.on = true ∧ 0 ≤ ixF (isH h) a.cases
      · have hpl : plI a (isH h) = ixF (isH h) a.cases := by unfold plI; rw [if_pos hon.1]
        rw [hpl] at cP
        rw [show (a.on && decide (0 ≤ ixF (isH h) a.cases)) = true by rw [hon.1, decide_eq_true hon.2]; rfl, if_pos rfl] at hn
        have hres : isort (tick l) (onK l h (q + 1)) = insS (tick l) q O := by rw [hn, isort_next, ← h3]
        have htq : tick l (q : Int) = a.ticket := by unfold tick; rw [Int.toNat_natCast, getD_of ha]
        obtain ⟨aon, atk, asq, acs⟩ := a
        dsimp only at htq hon
        repeat' (first | ((with_reducible refine kAL ?_); (first | (refine kL 1 rfl ?_; (first | refine A_as rfl rfl rfl rfl ?_ | refine A_move rfl rfl _ (.inr rfl) (y := .nl) rfl ?_)) | refine A_mt rfl rfl rfl rfl ?_ | refine A_len rfl rfl 22 _ rfl ud22 rfl ?_ | (refine kL 105 rfl ?_; (first | refine A_cmp (d := 15) rfl rfl (c := true) .lss 3 3 _ _ rfl rfl rfl (by exact congrArg some (decide_eq_true (by (try (dsimp only; fail_if_success done)); omega))) ?_ | refine A_cmp (d := 22) rfl rfl (c := false) .lss 3 3 _ _ rfl rfl rfl (by exact congrArg some (decide_eq_false (by (try (dsimp only; fail_if_success done)); omega))) ?_)) | (refine kL 838 rfl ?_; refine A_idx rfl rfl 26 _ _ rfl ud26 inf43 (by decide) (by exact .inl rfl) rfl (by omega) _ (by with_reducible exact Int.toNat_natCast _) (by exact map_get (by assumption)) rfl (cs' := [_, _, _, _]) rfl ?_) | (refine kL 1378 rfl ?_; (first | refine A_load_agg rfl rfl 43 _ rfl ud43 rfl inf43 rfl rfl (us' := [_, _, _, _]) rfl rfl ?_ | refine A_load_lp_agg rfl rfl 43 _ rfl ud43 rfl inf43 rfl (us' := [_, _, _, _]) rfl rfl ?_)) | refine A_alloc rfl rfl 43 rfl inf43 (cs := [.t (.v (.bool false)), .t (.v (.int .i64 0)), .t (.v (.int .i64 0)), AV.nl]) rfl (.push qL qN) ?_ | refine A_store rfl rfl 43 _ _ rfl inf43 rfl rfl rfl rfl (Nat.le_of_ble_eq_true rfl) qN qN ?_ | (refine kL 3722 rfl ?_; refine A_cl rfl rfl Try.func116 rfl (cP) ?_) | refine AL.nil ?_)) | (with_reducible (first | refine wk0 ?_ | refine wk1 ?_ | refine wk2 ?_ | refine wkd ?_)) | refine kct rfl ?_ | refine kcf rfl ?_ | with_reducible refine AW.at_region _ ?_)
        all_goals first | (exfalso; omega) | skip
        refine AW.wk (Wk.own 8 rfl 3 1 (.push rfl rfl)) ?_
        refine AW.loopP (fun (y : OnS) => y.j ≤ O.length ∧ y.n = y.M.length ∧ y.M.length ≤ y.j + 1 ∧ (y.put = true → y.M ++ O.drop y.j = insS (tick l) q O) ∧ (y.put = false → y.M = O.take y.j ∧ ∀ z ∈ O.take y.j, ¬ tick l q < tick l z)) (fun (y : OnS) => (pu (pu (pu (pu (pu (pu (pu (pu (pu (pu (pu (pu (fun _ => .any) 0 (.ln (l.map tWt))) 1 (i64 h)) 6 (i64 q)) 7 (.ptr 0 0)) 8 (.sl 1 y.k y.n)) 9 (bo y.put)) 12 (.ln (l.map tWt))) 13 (i64 (l.map tWt).length)) 14 (i64 q)) 23 (.t (.lst (O.map tI)))) 24 (i64 (O.map tI).length)) 25 (i64 y.j))) (fun (y : OnS) => [.box 43 [bo aon, i64 atk, i64 asq, .t (.lst (acs.map tCs))], .row y.k 3 1 (y.M.map tI)]) (fun (y : OnS) => O.length - y.j) (⟨0, 0, 0, [], false⟩) ?_ ?_ ?_
        · exact ⟨Nat.zero_le _, rfl, by decide, fun h => (by cases h), fun _ => ⟨rfl, fun z hz => by simp at hz⟩⟩
        · exact Wk.cq 2
        · rintro ⟨j, k, n', M, put⟩ ⟨g1, g0, g2, g3, g4⟩
          dsimp only at g1 g0 g2 g3 g4 ⊢
          subst g0
          have hMt : (M.map tI).length = M.length := List.length_map _
          by_cases hj : j < O.length
          · obtain ⟨z, hz⟩ : ∃ z, O[j]? = some z := ⟨_, List.getElem?_eq_getElem hj⟩
            obtain ⟨z1, z2⟩ := hOb z (List.mem_of_getElem? hz)
            obtain ⟨n, rfl⟩ : ∃ n : Nat, z = n := ⟨z.toNat, by omega⟩
            obtain ⟨b, hb⟩ : ∃ b, l[n]? = some b := ⟨_, List.getElem?_eq_getElem (by omega)⟩
            have htn : tick l (n : Int) = b.ticket := by unfold tick; rw [Int.toNat_natCast, getD_of hb]
            have hdj : O.drop j = (n : Int) :: O.drop (j + 1) := drop_next hz
            have htj : O.take (j + 1) = O.take j ++ [(n : Int)] := by rw [List.take_add_one, hz]; rfl
            obtain ⟨b1, b2, b3, b4⟩ := b
            dsimp only at htn
            cases put
            · obtain ⟨k1, k2⟩ := g4 rfl
              by_cases hk : atk < b2
              · have hnew : (M ++ [(q : Int)] ++ [(n : Int)]) ++ O.drop (j + 1) = insS (tick l) q O := by
                  conv => rhs; rw [← List.take_append_drop j O, insS_skip k2, hdj]
                  rw [insS, if_pos (by rw [htq, htn]; exact hk), k1]; simp [List.append_assoc]
                repeat' (first | ((with_reducible refine kAL ?_); (first | (refine kL 1 rfl ?_; (first | refine A_as rfl rfl rfl rfl ?_ | refine A_move rfl rfl _ (.inr rfl) (y := .sl _ _ _) rfl ?_)) | (refine kL 0 rfl ?_; (first | refine A_mt rfl rfl rfl rfl ?_ | refine A_move rfl rfl _ (.inl rfl) (y := .sl _ _ _) rfl ?_)) | (refine kL 12 rfl ?_; refine A_append rfl rfl _ _ 22 rfl ud22 inf3 rfl rfl rfl (by first | (simp <;> fail) | fail) (by exact .all rfl (by rfl)) qB qB (by first | exact app_one (f := tI) (x := _) (by first | rfl | (simp <;> fail)) | fail) qN qS ?_) | (refine kL 105 rfl ?_; (first | refine A_cmp (d := 26) rfl rfl (c := true) .lss 3 3 _ _ rfl rfl rfl (by exact congrArg some (decide_eq_true (by (try (dsimp only; fail_if_success done)); omega))) ?_ | refine A_add rfl rfl 3 3 _ _ rfl rfl rfl (by exact wi) ?_)) | (refine kL 710 rfl ?_; refine A_idx rfl rfl 22 _ _ rfl ud22 inf3 (by decide) (by exact .inr rfl) rfl (by omega) _ (by with_reducible exact Int.toNat_natCast _) (by exact map_get (by assumption)) rfl (cs' := [_]) rfl ?_) | refine A_load_lp rfl rfl 3 _ rfl ud3 rfl rfl rfl ?_ | (refine kL 719 rfl ?_; refine A_lit rfl rfl 22 1 _ rfl ud22 inf3 (.cons rfl .nil) (els := [[_]]) rfl (by exact (rfl : _ = List.map tI [_])) rfl (Nat.ne_of_beq_eq_false rfl) (Nat.le_of_ble_eq_true rfl) (Nat.le_of_ble_eq_true rfl) (.push qL qN) ?_) | refine AL.nil ?_)) | ((with_reducible refine kRG ?_); (first | (refine kR 0 rfl ?_; (first | refine R_mt rfl rfl rfl rfl ?_ | refine R_move rfl rfl _ (.inl rfl) (y := .ln _) rfl ?_)) | refine R_not rfl rfl _ _ rfl rfl ?_ | (refine kR 838 rfl ?_; refine R_idx rfl rfl 26 _ _ rfl ud26 inf43 (by decide) (by exact .inl rfl) rfl (by omega) _ (by with_reducible exact Int.toNat_natCast _) (by exact map_get (by assumption)) rfl (cs' := [_, _, _, _]) rfl ?_) | refine R_field rfl rfl 43 _ 1 rfl ud43 rfl inf3 (by decide) 1 rfl rfl ?_ | (refine kR 98 rfl ?_; (first | refine R_load rfl rfl 3 _ rfl ud3 rfl rfl rfl rfl ?_ | refine R_load_lp rfl rfl 3 _ rfl ud3 rfl rfl rfl ?_)) | refine R_cmp (d := 39) rfl rfl (c := true) .gtr 3 3 _ _ rfl rfl rfl (by exact congrArg some (decide_eq_true (by (try (dsimp only; fail_if_success done)); omega))) ?_ | refine R_pick rfl rfl _ _ _ rfl rfl rfl rfl rfl ?_ | refine RG.nil ⟨by kernel_rfl, ?_⟩)) | (with_reducible (first | refine wk0 ?_ | refine wk1 ?_ | refine wk2 ?_ | refine wk5 ?_ | refine wkd ?_)) | refine kct rfl ?_ | with_reducible refine AW.at_region _ ?_ | refine AW.at_draw 11 mixed 0 [[], [0], [0, 1], [0, 1, 2], [0, 1, 2], [0, 1, 2, 3, 4], [0, 1, 2, 3, 4, 5], [0, 1, 2, 3, 4, 5, 6], [0, 1, 2], [0, 1, 2, 8], [0, 1, 2, 3, 4, 5, 6, 7, 8, 9], [0, 1, 2, 3, 4, 5, 6, 7, 8, 9, 10]] qR ?_)
                all_goals first | (exfalso; omega) | skip
                refine ⟨⟨j + 1, k + 1 + 1, M.length + 1 + 1, M ++ [(q : Int)] ++ [(n : Int)], true⟩, ⟨by dsimp only; omega, by simp, ?_, fun _ => hnew, fun h => (by cases h)⟩, by dsimp only; omega, ?_⟩
                · dsimp only; rw [k1]; simp; omega
                · exact Wk.cq 2
              · repeat' (first | ((with_reducible refine kAL ?_); (first | (refine kL 1 rfl ?_; (first | refine A_as rfl rfl rfl rfl ?_ | refine A_move rfl rfl _ (.inr rfl) (y := .sl _ _ _) rfl ?_)) | (refine kL 0 rfl ?_; (first | refine A_mt rfl rfl rfl rfl ?_ | refine A_move rfl rfl _ (.inl rfl) (y := .sl _ _ _) rfl ?_)) | (refine kL 12 rfl ?_; refine A_append rfl rfl _ _ 22 rfl ud22 inf3 rfl rfl rfl (by first | (simp <;> fail) | fail) (by exact .all rfl (by rfl)) qB qB (by exact app_one (f := tI) (x := _) (by rfl)) qN qS ?_) | (refine kL 105 rfl ?_; (first | refine A_cmp (d := 26) rfl rfl (c := true) .lss 3 3 _ _ rfl rfl rfl (by exact congrArg some (decide_eq_true (by (try (dsimp only; fail_if_success done)); omega))) ?_ | refine A_add rfl rfl 3 3 _ _ rfl rfl rfl (by exact wi) ?_)) | (refine kL 710 rfl ?_; refine A_idx rfl rfl 22 _ _ rfl ud22 inf3 (by decide) (by exact .inr rfl) rfl (by omega) _ (by with_reducible exact Int.toNat_natCast _) (by exact map_get (by assumption)) rfl (cs' := [_]) rfl ?_) | refine A_load_lp rfl rfl 3 _ rfl ud3 rfl rfl rfl ?_ | (refine kL 719 rfl ?_; refine A_lit rfl rfl 22 1 _ rfl ud22 inf3 (.cons rfl .nil) (els := [[_]]) rfl (by exact (rfl : _ = List.map tI [_])) rfl (Nat.ne_of_beq_eq_false rfl) (Nat.le_of_ble_eq_true rfl) (Nat.le_of_ble_eq_true rfl) (.push qL qN) ?_) | refine AL.nil ?_)) | ((with_reducible refine kRG ?_); (first | (refine kR 0 rfl ?_; (first | refine R_mt rfl rfl rfl rfl ?_ | refine R_move rfl rfl _ (.inl rfl) (y := .ln _) rfl ?_)) | refine R_not rfl rfl _ _ rfl rfl ?_ | (refine kR 838 rfl ?_; refine R_idx rfl rfl 26 _ _ rfl ud26 inf43 (by decide) (by exact .inl rfl) rfl (by omega) _ (by with_reducible exact Int.toNat_natCast _) (by exact map_get (by assumption)) rfl (cs' := [_, _, _, _]) rfl ?_) | refine R_field rfl rfl 43 _ 1 rfl ud43 rfl inf3 (by decide) 1 rfl rfl ?_ | (refine kR 98 rfl ?_; (first | refine R_load rfl rfl 3 _ rfl ud3 rfl rfl rfl rfl ?_ | refine R_load_lp rfl rfl 3 _ rfl ud3 rfl rfl rfl ?_)) | refine R_cmp (d := 39) rfl rfl (c := false) .gtr 3 3 _ _ rfl rfl rfl (by exact congrArg some (decide_eq_false (by (try (dsimp only; fail_if_success done)); omega))) ?_ | refine R_pick rfl rfl _ _ _ rfl rfl rfl rfl rfl ?_ | refine RG.nil ⟨by kernel_rfl, ?_⟩)) | (with_reducible (first | refine wk0 ?_ | refine wk1 ?_ | refine wk2 ?_ | refine wk5 ?_ | refine wkd ?_)) | refine kct rfl ?_ | refine kcf rfl ?_ | with_reducible refine AW.at_region _ ?_ | refine AW.at_draw 11 mixed 0 [[], [0], [0, 1], [0, 1, 2], [0, 1, 2], [0, 1, 2, 3, 4], [0, 1, 2, 3, 4, 5], [0, 1, 2, 3, 4, 5, 6], [0, 1, 2], [0, 1, 2, 8], [0, 1, 2, 3, 4, 5, 6, 7, 8, 9], [0, 1, 2, 3, 4, 5, 6, 7, 8, 9, 10]] qR ?_)
                all_goals first | (exfalso; omega) | skip
                refine ⟨⟨j + 1, k + 1, M.length + 1, M ++ [(n : Int)], false⟩, ⟨by dsimp only; omega, by simp, by simp; omega, fun h => (by cases h), fun _ => ⟨by dsimp only; rw [htj, k1], fun z hz => ?_⟩⟩, by dsimp only; omega, ?_⟩
                · dsimp only at hz; rw [htj] at hz
                  rcases List.mem_append.1 hz with hz | hz
                  · exact k2 z hz
                  · simp at hz; subst hz; rw [htq, htn]; exact hk
                · exact Wk.cq 2
            · have k1 := g3 rfl
              repeat' (first | ((with_reducible refine kAL ?_); (first | (refine kL 1 rfl ?_; (first | refine A_as rfl rfl rfl rfl ?_ | refine A_move rfl rfl _ (.inr rfl) (y := .sl _ _ _) rfl ?_)) | (refine kL 0 rfl ?_; (first | refine A_mt rfl rfl rfl rfl ?_ | refine A_move rfl rfl _ (.inl rfl) (y := .sl _ _ _) rfl ?_)) | (refine kL 12 rfl ?_; refine A_append rfl rfl _ _ 22 rfl ud22 inf3 rfl rfl rfl (by first | (simp <;> fail) | fail) (by exact .all rfl (by rfl)) qB qB (by exact app_one (f := tI) (x := _) (by rfl)) qN qS ?_) | (refine kL 105 rfl ?_; (first | refine A_cmp (d := 26) rfl rfl (c := true) .lss 3 3 _ _ rfl rfl rfl (by exact congrArg some (decide_eq_true (by (try (dsimp only; fail_if_success done)); omega))) ?_ | refine A_add rfl rfl 3 3 _ _ rfl rfl rfl (by exact wi) ?_)) | (refine kL 710 rfl ?_; refine A_idx rfl rfl 22 _ _ rfl ud22 inf3 (by decide) (by exact .inr rfl) rfl (by omega) _ (by with_reducible exact Int.toNat_natCast _) (by exact map_get (by assumption)) rfl (cs' := [_]) rfl ?_) | refine A_load_lp rfl rfl 3 _ rfl ud3 rfl rfl rfl ?_ | (refine kL 719 rfl ?_; refine A_lit rfl rfl 22 1 _ rfl ud22 inf3 (.cons rfl .nil) (els := [[_]]) rfl (by exact (rfl : _ = List.map tI [_])) rfl (Nat.ne_of_beq_eq_false rfl) (Nat.le_of_ble_eq_true rfl) (Nat.le_of_ble_eq_true rfl) (.push qL qN) ?_) | refine AL.nil ?_)) | ((with_reducible refine kRG ?_); (first | refine R_mt rfl rfl rfl rfl ?_ | refine R_not rfl rfl _ _ rfl rfl ?_ | refine R_pick rfl rfl _ _ _ rfl rfl rfl rfl rfl ?_ | refine RG.nil ⟨by kernel_rfl, ?_⟩ | refine R_skip rfl rfl ?_)) | (with_reducible (first | refine wk0 ?_ | refine wk1 ?_ | refine wk2 ?_ | refine wk5 ?_ | refine wkd ?_)) | refine kct rfl ?_ | refine kcf rfl ?_ | with_reducible refine AW.at_region _ ?_ | refine AW.at_draw 11 mixed 0 [[], [0], [0, 1], [0, 1, 2], [0, 1, 2], [0, 1, 2, 3, 4], [0, 1, 2, 3, 4, 5], [0, 1, 2, 3, 4, 5, 6], [0, 1, 2], [0, 1, 2, 8], [0, 1, 2, 3, 4, 5, 6, 7, 8, 9], [0, 1, 2, 3, 4, 5, 6, 7, 8, 9, 10]] qR ?_)
              all_goals first | (exfalso; omega) | skip
              refine ⟨⟨j + 1, k + 1, M.length + 1, M ++ [(n : Int)], true⟩, ⟨by dsimp only; omega, by simp, by simp; omega, fun _ => by dsimp only; rw [← k1, hdj]; simp, fun h => (by cases h)⟩, by dsimp only; omega, ?_⟩
              exact Wk.cq 2
          · have ej : j = O.length := by omega
            subst ej
            cases put
            · obtain ⟨k1, k2⟩ := g4 rfl
              rw [List.take_length] at k1 k2
              have hnew : M ++ [(q : Int)] = insS (tick l) q O := by
                have := insS_skip (key := tick l) (x := (q : Int)) (S2 := []) k2
                rw [List.append_nil] at this
                rw [this, k1]; rfl
              repeat' (first | ((with_reducible refine kAL ?_); (first | (refine kL 1 rfl ?_; (first | (refine A_move (d := 5) rfl rfl _ (.inr rfl) (y := .sl _ _ _) rfl ?_; (try refine AL.wk (Wk.freeze 1 rfl 5 rfl (by first | exact .all (by first | (simp <;> fail) | fail) | fail) qN) ?_)) | refine A_move rfl rfl _ (.inr rfl) (y := .sl _ _ _) rfl ?_)) | (refine kL 0 rfl ?_; (first | refine A_mt rfl rfl rfl rfl ?_ | refine A_move rfl rfl _ (.inl rfl) (y := .sl _ _ _) rfl ?_)) | (refine kL 12 rfl ?_; refine A_append rfl rfl _ _ 22 rfl ud22 inf3 rfl rfl rfl (by first | (simp <;> fail) | fail) (by exact .all rfl (by rfl)) qB qB (by exact app_one (f := tI) (x := _) (by rfl)) qN qS ?_) | (refine kL 105 rfl ?_; (first | refine A_cmp (d := 26) rfl rfl (c := false) .lss 3 3 _ _ rfl rfl rfl (by exact congrArg some (decide_eq_false (by (try (dsimp only; fail_if_success done)); omega))) ?_ | refine A_add rfl rfl 3 3 _ _ rfl rfl rfl (by exact wi) ?_)) | (refine kL 719 rfl ?_; refine A_lit rfl rfl 22 1 _ rfl ud22 inf3 (.cons rfl .nil) (els := [[_]]) rfl (by exact (rfl : _ = List.map tI [_])) rfl (Nat.ne_of_beq_eq_false rfl) (Nat.le_of_ble_eq_true rfl) (Nat.le_of_ble_eq_true rfl) (.push qL qN) ?_) | refine A_not rfl rfl _ _ rfl rfl ?_ | refine AL.nil ?_)) | (with_reducible (first | refine wk0 ?_ | refine wk2 ?_ | refine wk4 ?_ | refine wk5 ?_ | refine wk7 ?_ | refine wkc ?_)) | refine kct rfl ?_ | refine kcf rfl ?_ | with_reducible refine AW.at_region _ ?_)
              all_goals first | (exfalso; omega) | skip
              rw [hnew, ← hres]
              refine ⟨(q + 1, isort (tick l) (onK l h (q + 1))), ⟨by dsimp only; omega, rfl⟩, by dsimp only; omega, ?_⟩
              exact Wk.cq 0
            · have k1 := g3 rfl
              rw [List.drop_length, List.append_nil] at k1
              repeat' (first | ((with_reducible refine kAL ?_); (first | (refine kL 1 rfl ?_; (refine A_move (d := 5) rfl rfl _ (.inr rfl) (y := .sl _ _ _) rfl ?_; (try refine AL.wk (Wk.freeze 1 rfl 5 rfl (by first | exact .all (by first | (simp <;> fail) | fail) | fail) qN) ?_))) | (refine kL 0 rfl ?_; (first | refine A_mt rfl rfl rfl rfl ?_ | refine A_move rfl rfl _ (.inl rfl) (y := .sl _ _ _) rfl ?_)) | (refine kL 105 rfl ?_; (first | refine A_cmp (d := 26) rfl rfl (c := false) .lss 3 3 _ _ rfl rfl rfl (by exact congrArg some (decide_eq_false (by (try (dsimp only; fail_if_success done)); omega))) ?_ | refine A_add rfl rfl 3 3 _ _ rfl rfl rfl (by exact wi) ?_)) | refine A_not rfl rfl _ _ rfl rfl ?_ | refine AL.nil ?_)) | (with_reducible (first | refine wk0 ?_ | refine wk2 ?_ | refine wk4 ?_ | refine wk5 ?_ | refine wk7 ?_ | refine wkc ?_ | refine wkd ?_)) | refine kcf rfl ?_ | with_reducible refine AW.at_region _ ?_)
              all_goals first | (exfalso; omega) | skip
              rw [k1, ← hres]
              refine ⟨(q + 1, isort (tick l) (onK l h (q + 1))), ⟨by dsimp only; omega, rfl⟩, by dsimp only; omega, ?_⟩
              exact Wk.cq 0
      · have hpl : plI a (isH h) < 0 := by
          unfold plI
          cases ha2 : a.on
          · simp
          · rw [if_pos rfl]
            by_cases e : 0 ≤ ixF (isH h) a.cases
            · exact absurd ⟨ha2, e⟩ hon
            · omega
        rw [show (a.on && decide (0 ≤ ixF (isH h) a.cases)) = false by
          cases ha2 : a.on
          · rfl
          · rw [decide_eq_false fun e => hon ⟨ha2, e⟩]; rfl, if_neg (by simp)] at hn
        generalize plI a (isH h) = z at cP hpl
        obtain ⟨aon, atk, asq, acs⟩ := a
        repeat' (first | ((with_reducible refine kAL ?_); (first | refine A_as rfl rfl rfl rfl ?_ | refine A_mt rfl rfl rfl rfl ?_ | (refine kL 105 rfl ?_; (first | refine A_cmp (d := 15) rfl rfl (c := true) .lss 3 3 _ _ rfl rfl rfl (by exact congrArg some (decide_eq_true (by (try (dsimp only; fail_if_success done)); omega))) ?_ | refine A_cmp (d := 22) rfl rfl (c := true) .lss 3 3 _ _ rfl rfl rfl (by exact congrArg some (decide_eq_true (by (try (dsimp only; fail_if_success done)); omega))) ?_ | refine A_add rfl rfl 3 3 _ _ rfl rfl rfl (by exact wi) ?_)) | (refine kL 838 rfl ?_; refine A_idx rfl rfl 26 _ _ rfl ud26 inf43 (by decide) (by exact .inl rfl) rfl (by omega) _ (by with_reducible exact Int.toNat_natCast _) (by exact map_get (by assumption)) rfl (cs' := [_, _, _, _]) rfl ?_) | (refine kL 1378 rfl ?_; (first | refine A_load_agg rfl rfl 43 _ rfl ud43 rfl inf43 rfl rfl (us' := [_, _, _, _]) rfl rfl ?_ | refine A_load_lp_agg rfl rfl 43 _ rfl ud43 rfl inf43 rfl (us' := [_, _, _, _]) rfl rfl ?_)) | refine A_alloc rfl rfl 43 rfl inf43 (cs := [.t (.v (.bool false)), .t (.v (.int .i64 0)), .t (.v (.int .i64 0)), AV.nl]) rfl (.push qL qN) ?_ | refine A_store rfl rfl 43 _ _ rfl inf43 rfl rfl rfl rfl (Nat.le_of_ble_eq_true rfl) qN qN ?_ | (refine kL 3722 rfl ?_; refine A_cl rfl rfl Try.func116 rfl (cP) ?_) | refine AL.nil ?_)) | (with_reducible (first | refine wk0 ?_ | refine wk1 ?_ | refine wk2 ?_ | refine wk4 ?_ | refine wk7 ?_ | refine wkc ?_ | refine wkd ?_)) | refine kct rfl ?_ | with_reducible refine AW.at_region _ ?_)
        all_goals first | (exfalso; omega) | skip
        refine ⟨(q + 1, O), ⟨by dsimp only; omega, by dsimp only; rw [hn]; exact h3⟩, by dsimp only; omega, ?_⟩
        exact Wk.cq 0
    · have e : q = l.length := by omega
      subst e
      subst h3
      repeat' (first | ((with_reducible refine kAL ?_); (first | refine A_as rfl rfl rfl rfl ?_ | refine A_mt rfl rfl rfl rfl ?_ | refine A_cmp (d := 15) rfl rfl (c := false) .lss 3 3 _ _ rfl rfl rfl (by exact congrArg some (decide_eq_false (by (try (dsimp only; fail_if_success done)); omega))) ?_ | refine AL.nil ?_)) | (with_reducible (first | refine wk0 ?_ | refine wk2 ?_ | refine wk4 ?_ | refine wk7 ?_ | refine wk9 ?_ | refine wkb ?_ | refine wkc ?_)) | refine kcf rfl ?_ | with_reducible refine AW.at_region _ ?_)
      all_goals first | (exfalso; omega) | (exact Fin.q Try.results101 (.cons (.tmp rfl) .nil) [])
end Go.Proofs.Ytphcebioiipdpaa


namespace Go.Proofs.Ytphcebioiipdpaa
set_option linter.unusedVariables false
set_option linter.unusedSimpArgs false
set_option linter.unnecessarySimpa false
open Go.RowKit
set_option maxHeartbeats 32000000
attribute [local irreducible] AL AW RG Fin C Cd Cio thenQ blockQ retQ
set_option maxRecDepth 100000
attribute [local simp] putW_len cutW_len
theorem cuts_ok (S : List Int) : ∀ (l : List DWait), okW l → okW (S.foldl cutW l) ∧ (S.foldl cutW l).length = l.length := by
  induction S with
  | nil => intro l hl; exact ⟨hl, rfl⟩
  | cons z S ih =>
    intro l hl
    have := ih (cutW l z) (okW_cut hl)
    rw [List.foldl_cons]
    exact ⟨this.1, by rw [this.2, cutW_len]⟩
theorem idle_c (c : DChan) (h : Int) (l : List DWait) (hl : okW l) : Cd Try.prog 91 [aC c, i64 h, .ln (l.map tWt)] (bo (c.used && c.closed && decide (c.buf = []) && decide (onS l h = []))) [] := by
  have cO := onAll_c l h hl
  rw [← isort_len (key := tick l)] at cO
  have h2 : (onS l h).length ≤ l.length := (onS_b l h).2.1
  have h3 := hl.1
  unfold onS at h2 ⊢
  generalize isort (tick l) (onK l h l.length) = S at cO h2 ⊢
  obtain ⟨g, cap, used, closed, buf⟩ := c
  have h1 : (buf.map tI).length = buf.length := List.length_map _
  dsimp only [aC]
  by_cases e1 : buf = []
  · subst e1
    by_cases e2 : S = []
    · subst e2
      cases used <;> cases closed
      all_goals
        refine Cd.enter' Try.func91 rfl Try.ntmps91 rfl ?_
        repeat' (first | ((with_reducible refine kAL ?_); (first | refine A_box rfl rfl 66 _ rfl rfl (.push qL qN) ?_ | refine A_as rfl rfl rfl rfl ?_ | (refine kL 2116 rfl ?_; (first | refine A_field rfl rfl 66 _ 2 rfl ud66 rfl inf4 (by decide) 2 rfl rfl ?_ | refine A_field rfl rfl 66 _ 3 rfl ud66 rfl inf4 (by decide) 3 rfl rfl ?_ | refine A_field rfl rfl 66 _ 4 rfl ud66 rfl inf22 (by decide) 4 rfl rfl ?_)) | refine A_load rfl rfl 4 _ rfl ud4 rfl rfl rfl rfl ?_ | (refine kL 0 rfl ?_; (first | refine A_mt rfl rfl rfl rfl ?_ | refine A_move rfl rfl _ (.inl rfl) (y := .ln _) rfl ?_)) | refine A_pick rfl rfl _ _ _ rfl rfl rfl rfl rfl ?_ | refine A_load rfl rfl 22 _ rfl ud22 rfl rfl rfl rfl ?_ | refine A_len rfl rfl 22 _ rfl ud22 rfl ?_ | (refine kL 105 rfl ?_; (first | refine A_cmp (d := 17) rfl rfl .eql 3 3 _ _ rfl rfl rfl rfl ?_ | refine A_cmp (d := 24) rfl rfl .eql 3 3 _ _ rfl rfl rfl rfl ?_)) | (refine kL 2730 rfl ?_; refine A_cl rfl rfl Try.func85 rfl (cO) ?_) | refine AL.nil ?_ | refine AL.skip rfl rfl ?_)) | with_reducible refine AW.at_region _ ?_ | (with_reducible (first | refine wk0 ?_ | refine wk2 ?_ | refine wk9 ?_ | refine wkb ?_)))
        all_goals first | (exfalso; omega) | (exact Fin.q Try.results91 (.cons (.tmp rfl) .nil) [])
    · have : 0 < S.length := List.length_pos_iff.2 e2
      rw [decide_eq_false e2]
      cases used <;> cases closed
      all_goals
        refine Cd.enter' Try.func91 rfl Try.ntmps91 rfl ?_
        repeat' (first | ((with_reducible refine kAL ?_); (first | refine A_box rfl rfl 66 _ rfl rfl (.push qL qN) ?_ | refine A_as rfl rfl rfl rfl ?_ | (refine kL 2116 rfl ?_; (first | refine A_field rfl rfl 66 _ 2 rfl ud66 rfl inf4 (by decide) 2 rfl rfl ?_ | refine A_field rfl rfl 66 _ 3 rfl ud66 rfl inf4 (by decide) 3 rfl rfl ?_ | refine A_field rfl rfl 66 _ 4 rfl ud66 rfl inf22 (by decide) 4 rfl rfl ?_)) | refine A_load rfl rfl 4 _ rfl ud4 rfl rfl rfl rfl ?_ | (refine kL 0 rfl ?_; (first | refine A_mt rfl rfl rfl rfl ?_ | refine A_move rfl rfl _ (.inl rfl) (y := .ln _) rfl ?_)) | refine A_pick rfl rfl _ _ _ rfl rfl rfl rfl rfl ?_ | refine A_load rfl rfl 22 _ rfl ud22 rfl rfl rfl rfl ?_ | refine A_len rfl rfl 22 _ rfl ud22 rfl ?_ | (refine kL 105 rfl ?_; (first | refine A_cmp (d := 24) rfl rfl (c := false) .eql 3 3 _ _ rfl rfl rfl (by exact congrArg some (decide_eq_false (by (try (dsimp only; fail_if_success done)); omega))) ?_ | refine A_cmp (d := 17) rfl rfl .eql 3 3 _ _ rfl rfl rfl rfl ?_)) | (refine kL 2730 rfl ?_; refine A_cl rfl rfl Try.func85 rfl (cO) ?_) | refine AL.nil ?_ | refine AL.skip rfl rfl ?_)) | with_reducible refine AW.at_region _ ?_ | (with_reducible (first | refine wk0 ?_ | refine wk2 ?_ | refine wk9 ?_ | refine wkb ?_)))
        all_goals first | (exfalso; omega) | (exact Fin.q Try.results91 (.cons (.tmp rfl) .nil) [])
  · have : 0 < buf.length := List.length_pos_iff.2 e1
    rw [decide_eq_false e1]
    cases used <;> cases closed
    all_goals
      refine Cd.enter' Try.func91 rfl Try.ntmps91 rfl ?_
      repeat' (first | ((with_reducible refine kAL ?_); (first | refine A_box rfl rfl 66 _ rfl rfl (.push qL qN) ?_ | refine A_as rfl rfl rfl rfl ?_ | (refine kL 2116 rfl ?_; (first | refine A_field rfl rfl 66 _ 2 rfl ud66 rfl inf4 (by decide) 2 rfl rfl ?_ | refine A_field rfl rfl 66 _ 3 rfl ud66 rfl inf4 (by decide) 3 rfl rfl ?_ | refine A_field rfl rfl 66 _ 4 rfl ud66 rfl inf22 (by decide) 4 rfl rfl ?_)) | refine A_load rfl rfl 4 _ rfl ud4 rfl rfl rfl rfl ?_ | refine A_mt rfl rfl rfl rfl ?_ | refine A_pick rfl rfl _ _ _ rfl rfl rfl rfl rfl ?_ | refine A_load rfl rfl 22 _ rfl ud22 rfl rfl rfl rfl ?_ | refine A_len rfl rfl 22 _ rfl ud22 rfl ?_ | refine A_cmp (d := 17) rfl rfl (c := false) .eql 3 3 _ _ rfl rfl rfl (by exact congrArg some (decide_eq_false (by (try (dsimp only; fail_if_success done)); omega))) ?_ | refine AL.nil ?_ | refine AL.skip rfl rfl ?_)) | with_reducible refine AW.at_region _ ?_ | (with_reducible (first | refine wk0 ?_ | refine wk2 ?_ | refine wk9 ?_ | refine wkb ?_)))
      all_goals first | (exfalso; omega) | (exact Fin.q Try.results91 (.cons (.tmp rfl) .nil) [])
end Go.Proofs.Ytphcebioiipdpaa


namespace Go.Proofs.Ytphcebioiipdpaa
set_option linter.unusedVariables false
set_option linter.unusedSimpArgs false
set_option linter.unnecessarySimpa false
def hdl (p g : Int) : Int := if 0 ≤ p ∧ p ≤ 7 ∧ 1 ≤ g ∧ g ≤ 4095 then g * 8 + p else 0
def plOk (h : Int) : Bool := decide (8 ≤ h ∧ h ≤ 32767)
def plP (h : Int) : Int := if plOk h then h % 8 else 0
def plG (h : Int) : Int := if plOk h then h / 8 else 0
theorem pl_yes {h : Int} (a : 8 ≤ h) (b : h ≤ 32767) : plP h = h % 8 ∧ plG h = h / 8 ∧ plOk h = true := by
  have hok : plOk h = true := decide_eq_true ⟨a, b⟩
  unfold plP plG; rw [if_pos hok, if_pos hok]; exact ⟨rfl, rfl, hok⟩
theorem pl_no {h : Int} (a : ¬ (8 ≤ h ∧ h ≤ 32767)) : plP h = 0 ∧ plG h = 0 ∧ plOk h = false := by
  have hok : plOk h = false := decide_eq_false a
  unfold plP plG; rw [hok]; exact ⟨rfl, rfl, rfl⟩
end Go.Proofs.Ytphcebioiipdpaa


namespace Go.Proofs.Ytphcebioiipdpaa
set_option linter.unusedVariables false
set_option linter.unusedSimpArgs false
set_option linter.unnecessarySimpa false
open Go.RowKit
def chA (h : DHall) (p : Int) : DChan := h.chans.getD p.toNat default
def fndOk (h : DHall) (x : Int) : Bool := plOk x && decide (plP x < (h.chans.length : Int)) && (chA h (plP x)).used && decide ((chA h (plP x)).gen = plG x)
def fndP (h : DHall) (x : Int) : Int := if fndOk h x then plP x else 0
def noteL (d : List Rst) (t : Int) (r : Rst) : List Rst := if 0 ≤ t ∧ t < (d.length : Int) then d.set t.toNat r else d
def tellL (d : List Rst) (l : List DTold) : List Rst := l.foldl (fun d x => noteL d x.thread x.result) d
theorem noteL_len (d : List Rst) (t : Int) (r : Rst) : (noteL d t r).length = d.length := by unfold noteL; split <;> simp
theorem tellL_len (l : List DTold) : ∀ d : List Rst, (tellL d l).length = d.length := by
  induction l with
  | nil => intro d; rfl
  | cons x l ih => intro d; show (tellL (noteL d x.thread x.result) l).length = _; rw [ih, noteL_len]
theorem tellL_next {d : List Rst} {l : List DTold} {q : Nat} {x : DTold} (h : l[q]? = some x) : tellL d (l.take (q + 1)) = noteL (tellL d (l.take q)) x.thread x.result := by unfold tellL; rw [List.take_add_one, h, List.foldl_append]; rfl
theorem fnd_yes {h : DHall} {x : Int} (e : fndOk h x = true) : ∃ (n : Nat) (c : DChan), plOk x = true ∧ plP x = n ∧ h.chans[n]? = some c ∧ c.used = true ∧ c.gen = plG x ∧ fndP h x = n ∧ chA h n = c ∧ n < h.chans.length := by
  have e0 := e
  unfold fndOk at e
  simp only [Bool.and_eq_true, decide_eq_true_eq] at e
  obtain ⟨⟨⟨e1, e2⟩, e3⟩, e4⟩ := e
  have hb : 8 ≤ x ∧ x ≤ 32767 := by unfold plOk at e1; exact of_decide_eq_true e1
  have hp := (pl_yes hb.1 hb.2).1
  obtain ⟨n, hn⟩ : ∃ n : Nat, plP x = n := ⟨(plP x).toNat, by omega⟩
  rw [hn] at e2 e3 e4
  have hl : n < h.chans.length := by omega
  have hg : chA h (n : Int) = h.chans[n] := by unfold chA; rw [Int.toNat_natCast, getD_of (List.getElem?_eq_getElem hl)]
  rw [hg] at e3 e4
  exact ⟨n, h.chans[n], e1, hn, List.getElem?_eq_getElem hl, e3, e4, by unfold fndP; rw [if_pos e0, hn], hg, hl⟩
theorem fnd_no {h : DHall} {x : Int} (e : fndOk h x = false) : fndP h x = 0 := by unfold fndP; rw [e]; rfl
def okO (c : DConf) (x : DChan) : Bool := !x.used && decide (x.gen < min c.gens 4095)
def cH (h : DHall) (l : List DChan) : DHall := ⟨h.ticket, l, h.waits, h.done⟩
def openH (c : DConf) (h : DHall) (cap : Int) : DHall × Rst :=
  if cap < 0 ∨ c.cap < cap then (h, ⟨0, 0, 1, 0⟩)
  else if 0 ≤ ixF (okO c) h.chans then
    (cH h (h.chans.set (ixF (okO c) h.chans).toNat ⟨(chA h (ixF (okO c) h.chans)).gen + 1, cap, true, false, []⟩), ⟨0, 0, 0, hdl (ixF (okO c) h.chans) ((chA h (ixF (okO c) h.chans)).gen + 1)⟩)
  else (h, ⟨0, 0, if h.chans.any (fun x => !x.used) then 7 else 6, 0⟩)
def idleC (c : DChan) (x : Int) (l : List DWait) : Bool := c.used && c.closed && decide (c.buf = []) && decide (onS l x = [])
def freeH (h : DHall) (x : Int) : DHall × Rst :=
  if fndOk h x then
    if idleC (chA h (fndP h x)) x h.waits then (cH h (h.chans.set (fndP h x).toNat ⟨(chA h (fndP h x)).gen, 0, false, false, []⟩), ⟨0, 0, 0, 0⟩) else (h, ⟨0, 0, 13, 0⟩)
  else (h, ⟨0, 0, 8, 0⟩)
def badK (k : DCase) : Bool := decide (¬ (k.dir = 1 ∨ k.dir = 2) ∨ k.value < 0 ∨ 4294967295 < k.value)
def casesE (h : DHall) (l : List DCase) : Int := if l.length = 0 ∨ 3 < l.length ∨ l.any badK = true then 1 else if l.any (fun k => !fndOk h k.handle) then 8 else 0
def rdyK (h : DHall) (k : DCase) : Bool := rdyC (chA h (fndP h k.handle)) k.handle h.waits k.dir
def gotH (h : DHall) (k : DCase) : DG := doG (chA h (fndP h k.handle)) k.handle h.waits k.dir k.value
def oneH (h : DHall) (which : Int) (k : DCase) : DHall × Rst :=
  (⟨h.ticket, h.chans.set (fndP h k.handle).toNat (gotH h k).c, (gotH h k).l, tellL h.done (gotH h k).told⟩, ⟨(gotH h k).r.seq, which, (gotH h k).r.code, (gotH h k).r.value⟩)
def chooseH (h : DHall) (t n : Int) (q : DReq) : DHall × Rst :=
  if casesE h q.cases ≠ 0 then (h, ⟨0, 0, casesE h q.cases, 0⟩)
  else if 0 ≤ ixF (rdyK h) q.cases then oneH h (ixF (rdyK h) q.cases) (q.cases.getD (ixF (rdyK h) q.cases).toNat default)
  else if q.dflt then (h, ⟨0, 0, 10, 0⟩)
  else if 4294967295 ≤ h.ticket then (h, ⟨0, 0, 7, 0⟩)
  else if putOk h.waits t then (⟨h.ticket + 1, h.chans, putW h.waits t ⟨false, h.ticket, n, q.cases⟩, h.done⟩, ⟨0, 0, 14, 0⟩)
  else (h, ⟨0, 0, 13, 0⟩)
def closeH (h : DHall) (x : Int) : DHall × Rst :=
  if fndOk h x then
    (⟨h.ticket, h.chans.set (fndP h x).toNat (shutG (chA h (fndP h x)) x h.waits).c, (shutG (chA h (fndP h x)) x h.waits).l, tellL h.done (shutG (chA h (fndP h x)) x h.waits).told⟩, ⟨0, 0, (shutG (chA h (fndP h x)) x h.waits).e, 0⟩)
  else (h, ⟨0, 0, 8, 0⟩)
def lookH (h : DHall) (q : DReq) : Rst :=
  if fndOk h q.arg then (if q.kind = 6 then ⟨0, 0, 0, (chA h (fndP h q.arg)).cap⟩ else ⟨0, 0, 0, ((chA h (fndP h q.arg)).buf.length : Int)⟩) else ⟨0, 0, 8, 0⟩
def mayCut (h : DHall) (me t n : Int) : Bool := cutOk h.waits t && decide (t ≠ me) && decide ((h.waits.getD t.toNat default).seq = n)
def cancelH (h : DHall) (me t n : Int) : DHall × Rst :=
  if mayCut h me t n then (⟨h.ticket, h.chans, cutW h.waits t, noteL h.done t ⟨n, 0, 11, 0⟩⟩, ⟨0, 0, 0, 0⟩) else (h, ⟨0, 0, 12, 0⟩)
def callH (c : DConf) (h : DHall) (t n : Int) (q : DReq) : DHall × Rst :=
  if q.kind = 1 then openH c h q.arg
  else if q.kind = 2 then freeH h q.arg
  else if q.kind = 3 then chooseH h t n q
  else if q.kind = 4 then closeH h q.arg
  else if q.kind = 5 ∨ q.kind = 6 then (h, lookH h q)
  else if q.kind = 7 then cancelH h t q.arg q.value
  else (h, ⟨0, 0, 1, 0⟩)
def applyH (c : DConf) (h : DHall) (t n : Int) (q : DReq) : DHall :=
  ⟨(callH c h t n q).1.ticket, (callH c h t n q).1.chans, (callH c h t n q).1.waits, noteL (callH c h t n q).1.done t ⟨n, (callH c h t n q).2.cas, (callH c h t n q).2.code, (callH c h t n q).2.value⟩⟩
theorem casesE_0 {h : DHall} {l : List DCase} (e : casesE h l = 0) : l.length ≤ 3 ∧ 0 < l.length ∧ (∀ x ∈ l, badK x = false) ∧ ∀ x ∈ l, fndOk h x.handle = true := by
  unfold casesE at e
  split at e
  · omega
  · rename_i h1
    split at e
    · omega
    · rename_i h2
      refine ⟨by omega, by omega, fun x hx => ?_, fun x hx => ?_⟩
      · cases hb : badK x
        · rfl
        · exact absurd (.inr (.inr (List.any_eq_true.2 ⟨x, hx, hb⟩))) h1
      · cases hb : fndOk h x.handle
        · exact absurd (List.any_eq_true.2 ⟨x, hx, by simp [hb]⟩) h2
        · rfl
structure okQ (h : DHall) (q : DReq) : Prop where
  a : sI q.arg
  v : sI q.value
  c : ∀ x ∈ q.cases, sCs x
  l : q.cases.length ≤ 5864062014805
  t : -9223372036854775808 ≤ h.ticket
  g : ∀ x ∈ h.chans, sI x.gen
theorem openH_len (c : DConf) (h : DHall) (x : Int) : (openH c h x).1.chans.length = h.chans.length ∧ (openH c h x).1.done = h.done := by
  unfold openH
  repeat' split
  all_goals first | exact ⟨rfl, rfl⟩ | (simp [cH]; done)
theorem freeH_len (h : DHall) (x : Int) : (freeH h x).1.chans.length = h.chans.length ∧ (freeH h x).1.done = h.done := by
  unfold freeH
  repeat' split
  all_goals first | exact ⟨rfl, rfl⟩ | (simp [cH]; done)
theorem chooseH_len (h : DHall) (t n : Int) (q : DReq) : (chooseH h t n q).1.chans.length = h.chans.length ∧ (chooseH h t n q).1.done.length = h.done.length := by
  unfold chooseH oneH
  repeat' split
  all_goals first | exact ⟨rfl, rfl⟩ | (simp [tellL_len]; done)
theorem closeH_len (h : DHall) (x : Int) : (closeH h x).1.chans.length = h.chans.length ∧ (closeH h x).1.done.length = h.done.length := by unfold closeH; split <;> simp [tellL_len]
theorem cancelH_len (h : DHall) (me t n : Int) : (cancelH h me t n).1.chans.length = h.chans.length ∧ (cancelH h me t n).1.done.length = h.done.length := by unfold cancelH; split <;> simp [noteL_len]
theorem callH_len (c : DConf) (h : DHall) (t n : Int) (q : DReq) : (callH c h t n q).1.chans.length = h.chans.length ∧ (callH c h t n q).1.done.length = h.done.length := by
  unfold callH
  have h1 := openH_len c h q.arg
  have h2 := freeH_len h q.arg
  have h3 := chooseH_len h t n q
  have h4 := closeH_len h q.arg
  have h5 := cancelH_len h t q.arg q.value
  repeat' split
  all_goals first | exact ⟨rfl, rfl⟩ | assumption | exact ⟨h1.1, by rw [h1.2]⟩ | exact ⟨h2.1, by rw [h2.2]⟩
theorem applyH_len (c : DConf) (h : DHall) (t n : Int) (q : DReq) : (applyH c h t n q).chans.length = h.chans.length ∧ (applyH c h t n q).done.length = h.done.length := by
  have := callH_len c h t n q
  unfold applyH
  exact ⟨this.1, by rw [noteL_len]; exact this.2⟩
theorem noteL_in {d : List Rst} {j : Nat} {r : Rst} (h : j < d.length) : noteL d j r = d.set j r := by unfold noteL; rw [if_pos ⟨by omega, by omega⟩, Int.toNat_natCast]
theorem noteL_out {d : List Rst} {t : Int} {r : Rst} (h : ¬ (0 ≤ t ∧ t < (d.length : Int))) : noteL d t r = d := by unfold noteL; rw [if_neg h]
end Go.Proofs.Ytphcebioiipdpaa


namespace Go.Proofs.Ytphcebioiipdpaa
set_option linter.unusedVariables false
set_option linter.unusedSimpArgs false
set_option linter.unnecessarySimpa false
open Go.RowKit
abbrev u64 (x : Int) : AV := .t (.v (.int .u64 x))
abbrev aCf (c : DConf) : AV := .agg [i64 c.kind, i64 c.threads, i64 c.chans, i64 c.cap, i64 c.nodes, i64 c.retire, i64 c.patience, i64 c.tags, i64 c.seqs, i64 c.gens, .ln (c.start.map tI)]
abbrev aCh (x : DChan) : AV := .agg [i64 x.gen, i64 x.cap, bo x.used, bo x.closed, .ln (x.buf.map tI)]
abbrev aHl (h : DHall) : AV := .agg [i64 h.ticket, .ln (h.chans.map tCh), .ln (h.waits.map tWt), .ln (h.done.map tR)]
abbrev aRq (q : DReq) : AV := .agg [i64 q.kind, i64 q.arg, i64 q.value, bo q.dflt, .ln (q.cases.map tCs)]
abbrev aR (r : Rst) : AV := .agg [i64 r.seq, i64 r.cas, i64 r.code, i64 r.value]
abbrev fCf (c : DConf) : AV := .agg [i64 c.kind, i64 c.threads, i64 c.chans, i64 c.cap, i64 c.nodes, i64 c.retire, i64 c.patience, i64 c.tags, i64 c.seqs, i64 c.gens, .t (.lst (c.start.map tI))]
end Go.Proofs.Ytphcebioiipdpaa


namespace Go.Proofs.Ytphcebioiipdpaa
set_option linter.unusedVariables false
set_option linter.unusedSimpArgs false
set_option linter.unnecessarySimpa false
open Go.RowKit
def isPtr : AV → Bool
  | .ptr _ _ => true
  | .lp _ => true
  | .rp _ _ _ _ => true
  | _ => false
section
variable {P : Program} {ops : Array Oper} {Q : QS} {rest : List Oper} {o : Oper} {n : Fr} {T : Nat → AV} {heap : List Ob} {d : Nat}
theorem A_nilc (hw : wantedA n T ops o = true) (hd : o.dst = some d) (x : Operand) (ho : o.op = .nilCheck x) {y : AV} (hx : evA n T x = y) (hp : isPtr y = true) (k : AL P ops Q rest n (pu T d y) heap) : AL P ops Q (o :: rest) n T heap := by
  subst hx
  refine AL.val hw hd (fun e a w ρ Z Y hR => ⟨a.eval x, ?_, hR.eval x⟩) k
  have hv := hR.eval x
  have key : ∀ (y : AV) (v : Value), isPtr y = true → Val (Kn heap) ρ w Z Y y v → ∃ p, v = .pointer (some p) := by
    intro y v hp hv
    cases hv <;> first | (cases hp; done) | exact ⟨_, rfl⟩
  obtain ⟨p, e1⟩ := key _ _ hp hv
  unfold execOp; rw [ho]
  simp only [e1]
  rfl
theorem R_nilc (hw : wantedA n T ops o = true) (hd : o.dst = some d) (x : Operand) (ho : o.op = .nilCheck x) {y : AV} (hx : evA n T x = y) (hp : isPtr y = true) {F : List Dl → (Nat → AV) → List Ob → Prop} {acc : List Dl} (k : RG P ops n F rest (acc ++ [⟨some d, y, [], []⟩]) (pu T d y) heap) : RG P ops n F (o :: rest) acc T heap :=
  RG.cons hd.symm (fun T' h' hT hH hlen_ => A_nilc (by rw [wanted_eqA hT]; exact hw) hd x ho (by rw [ev_eq hT (by simp [ho, Op.operands, Call.operands])]; exact hx) hp (AL.nil ⟨rfl, rfl, rfl⟩)) rfl rfl k
theorem A_pkt (hw : wantedA n T ops o = true) (hd : o.dst = some d) (c x y : Operand) (ho : o.op = .pick c x y) (hc : evA n T c = .t (.v (.bool true))) {u : Tr} (hx : evA n T x = .t u) (k : AL P ops Q rest n (pu T d (.t u)) heap) : AL P ops Q (o :: rest) n T heap := A_pick hw hd c x y ho hc hx rfl rfl k
theorem A_pkf (hw : wantedA n T ops o = true) (hd : o.dst = some d) (c x y : Operand) (ho : o.op = .pick c x y) (hc : evA n T c = .t (.v (.bool false))) {u : Tr} (hx : evA n T y = .t u) (k : AL P ops Q rest n (pu T d (.t u)) heap) : AL P ops Q (o :: rest) n T heap := A_pick hw hd c x y ho hc rfl hx rfl k
theorem R_pkt (hw : wantedA n T ops o = true) (hd : o.dst = some d) (c x y : Operand) (ho : o.op = .pick c x y) (hc : evA n T c = .t (.v (.bool true))) {u : Tr} (hx : evA n T x = .t u) {F : List Dl → (Nat → AV) → List Ob → Prop} {acc : List Dl} (k : RG P ops n F rest (acc ++ [⟨some d, .t u, [], []⟩]) (pu T d (.t u)) heap) : RG P ops n F (o :: rest) acc T heap := R_pick hw hd c x y ho hc hx rfl rfl k
theorem R_pkf (hw : wantedA n T ops o = true) (hd : o.dst = some d) (c x y : Operand) (ho : o.op = .pick c x y) (hc : evA n T c = .t (.v (.bool false))) {u : Tr} (hx : evA n T y = .t u) {F : List Dl → (Nat → AV) → List Ob → Prop} {acc : List Dl} (k : RG P ops n F rest (acc ++ [⟨some d, .t u, [], []⟩]) (pu T d (.t u)) heap) : RG P ops n F (o :: rest) acc T heap := R_pick hw hd c x y ho hc rfl hx rfl k
end
end Go.Proofs.Ytphcebioiipdpaa


namespace Go.Proofs.Ytphcebioiipdpaa
set_option linter.unusedVariables false
set_option linter.unusedSimpArgs false
set_option linter.unnecessarySimpa false
open Go.RowKit
set_option maxHeartbeats 32000000
attribute [local irreducible] AL AW RG Fin C Cd Cio thenQ blockQ retQ
set_option maxRecDepth 100000
set_option maxHeartbeats 8000000 in
theorem chan_c (x y : DChan) (hx : x.buf.length ≤ 1152921504606846976) : Cd Try.prog 38 [aCh x, aCh y] (bo (decide (x = y))) [] := by
  have cC := ints_c x.buf y.buf hx
  obtain ⟨x1, x2, x3, x4, x5⟩ := x
  obtain ⟨y1, y2, y3, y4, y5⟩ := y
  dsimp only at cC
  by_cases e : (⟨x1, x2, x3, x4, x5⟩ : DChan) = ⟨y1, y2, y3, y4, y5⟩
  · cases e
    rw [decide_eq_true rfl] at cC ⊢
    cases x3 <;> cases x4
    all_goals
      refine Cd.enter' Try.func38 rfl Try.ntmps38 rfl ?_
      repeat' (first | ((with_reducible refine kAL ?_); (first | refine A_box rfl rfl 66 _ rfl rfl (.push qL qN) ?_ | refine A_as rfl rfl rfl rfl ?_ | (refine kL 2116 rfl ?_; (first | refine A_field rfl rfl 66 _ 0 rfl ud66 rfl inf3 (by decide) 0 rfl rfl ?_ | refine A_field rfl rfl 66 _ 1 rfl ud66 rfl inf3 (by decide) 1 rfl rfl ?_ | refine A_field rfl rfl 66 _ 2 rfl ud66 rfl inf4 (by decide) 2 rfl rfl ?_ | refine A_field rfl rfl 66 _ 3 rfl ud66 rfl inf4 (by decide) 3 rfl rfl ?_ | refine A_field rfl rfl 66 _ 4 rfl ud66 rfl inf22 (by decide) 4 rfl rfl ?_)) | refine A_load rfl rfl 3 _ rfl ud3 rfl rfl rfl rfl ?_ | (refine kL 105 rfl ?_; (first | refine A_cmp (d := 9) rfl rfl (c := true) .eql 3 3 _ _ rfl rfl rfl (by exact congrArg some (decide_eq_true (by (try (dsimp only; fail_if_success done)); omega))) ?_ | refine A_cmp (d := 15) rfl rfl (c := true) .eql 3 3 _ _ rfl rfl rfl (by exact congrArg some (decide_eq_true (by (try (dsimp only; fail_if_success done)); omega))) ?_)) | refine A_mt rfl rfl rfl rfl ?_ | (refine kL 19 rfl ?_; refine A_pkt rfl rfl _ _ _ rfl rfl rfl ?_) | refine A_load rfl rfl 4 _ rfl ud4 rfl rfl rfl rfl ?_ | refine A_beq rfl rfl 4 4 _ _ rfl ud4 rfl rfl ?_ | refine A_load rfl rfl 22 _ rfl ud22 rfl rfl rfl rfl ?_ | (refine kL 682 rfl ?_; refine A_cl rfl rfl Try.func21 rfl (cC) ?_) | refine AL.nil ?_)) | with_reducible refine AW.at_region _ ?_ | (with_reducible (first | refine wk0 ?_ | refine wk2 ?_ | refine wk9 ?_ | refine wkb ?_)))
      all_goals first | (exfalso; omega) | (exact Fin.q Try.results38 (.cons (.tmp rfl) .nil) [])
  · rw [decide_eq_false e]
    by_cases e1 : x1 = y1
    · by_cases e2 : x2 = y2
      · by_cases e3 : x3 = y3
        · by_cases e4 : x4 = y4
          · have e5 : x5 ≠ y5 := by rintro rfl; subst e1 e2 e3 e4; exact e rfl
            rw [decide_eq_false e5] at cC
            subst e1 e2 e3 e4
            cases x3 <;> cases x4
            all_goals
              refine Cd.enter' Try.func38 rfl Try.ntmps38 rfl ?_
              repeat' (first | ((with_reducible refine kAL ?_); (first | refine A_box rfl rfl 66 _ rfl rfl (.push qL qN) ?_ | refine A_as rfl rfl rfl rfl ?_ | (refine kL 2116 rfl ?_; (first | refine A_field rfl rfl 66 _ 0 rfl ud66 rfl inf3 (by decide) 0 rfl rfl ?_ | refine A_field rfl rfl 66 _ 1 rfl ud66 rfl inf3 (by decide) 1 rfl rfl ?_ | refine A_field rfl rfl 66 _ 2 rfl ud66 rfl inf4 (by decide) 2 rfl rfl ?_ | refine A_field rfl rfl 66 _ 3 rfl ud66 rfl inf4 (by decide) 3 rfl rfl ?_ | refine A_field rfl rfl 66 _ 4 rfl ud66 rfl inf22 (by decide) 4 rfl rfl ?_)) | refine A_load rfl rfl 3 _ rfl ud3 rfl rfl rfl rfl ?_ | (refine kL 105 rfl ?_; (first | refine A_cmp (d := 9) rfl rfl (c := true) .eql 3 3 _ _ rfl rfl rfl (by exact congrArg some (decide_eq_true (by (try (dsimp only; fail_if_success done)); omega))) ?_ | refine A_cmp (d := 15) rfl rfl (c := true) .eql 3 3 _ _ rfl rfl rfl (by exact congrArg some (decide_eq_true (by (try (dsimp only; fail_if_success done)); omega))) ?_)) | refine A_mt rfl rfl rfl rfl ?_ | (refine kL 19 rfl ?_; refine A_pkt rfl rfl _ _ _ rfl rfl rfl ?_) | refine A_load rfl rfl 4 _ rfl ud4 rfl rfl rfl rfl ?_ | refine A_beq rfl rfl 4 4 _ _ rfl ud4 rfl rfl ?_ | refine A_load rfl rfl 22 _ rfl ud22 rfl rfl rfl rfl ?_ | (refine kL 682 rfl ?_; refine A_cl rfl rfl Try.func21 rfl (cC) ?_) | refine AL.nil ?_)) | with_reducible refine AW.at_region _ ?_ | (with_reducible (first | refine wk0 ?_ | refine wk2 ?_ | refine wk9 ?_ | refine wkb ?_)))
              all_goals first | (exfalso; omega) | (exact Fin.q Try.results38 (.cons (.tmp rfl) .nil) [])
          · subst e1 e2 e3
            cases x3 <;> cases x4 <;> cases y4
            all_goals first | (exact absurd rfl e4) | skip
            all_goals
              refine Cd.enter' Try.func38 rfl Try.ntmps38 rfl ?_
              repeat' (first | ((with_reducible refine kAL ?_); (first | refine A_box rfl rfl 66 _ rfl rfl (.push qL qN) ?_ | refine A_as rfl rfl rfl rfl ?_ | (refine kL 2116 rfl ?_; (first | refine A_field rfl rfl 66 _ 0 rfl ud66 rfl inf3 (by decide) 0 rfl rfl ?_ | refine A_field rfl rfl 66 _ 1 rfl ud66 rfl inf3 (by decide) 1 rfl rfl ?_ | refine A_field rfl rfl 66 _ 2 rfl ud66 rfl inf4 (by decide) 2 rfl rfl ?_ | refine A_field rfl rfl 66 _ 3 rfl ud66 rfl inf4 (by decide) 3 rfl rfl ?_)) | refine A_load rfl rfl 3 _ rfl ud3 rfl rfl rfl rfl ?_ | (refine kL 105 rfl ?_; (first | refine A_cmp (d := 9) rfl rfl (c := true) .eql 3 3 _ _ rfl rfl rfl (by exact congrArg some (decide_eq_true (by (try (dsimp only; fail_if_success done)); omega))) ?_ | refine A_cmp (d := 15) rfl rfl (c := true) .eql 3 3 _ _ rfl rfl rfl (by exact congrArg some (decide_eq_true (by (try (dsimp only; fail_if_success done)); omega))) ?_)) | refine A_mt rfl rfl rfl rfl ?_ | (refine kL 19 rfl ?_; (first | refine A_pkt rfl rfl _ _ _ rfl rfl rfl ?_ | refine A_pkf rfl rfl _ _ _ rfl rfl rfl ?_)) | refine A_load rfl rfl 4 _ rfl ud4 rfl rfl rfl rfl ?_ | refine A_beq rfl rfl 4 4 _ _ rfl ud4 rfl rfl ?_ | refine AL.nil ?_ | refine AL.skip rfl rfl ?_)) | with_reducible refine AW.at_region _ ?_ | (with_reducible (first | refine wk0 ?_ | refine wk2 ?_ | refine wk9 ?_ | refine wkb ?_)))
              all_goals first | (exfalso; omega) | (exact Fin.q Try.results38 (.cons (.tmp rfl) .nil) [])
        · subst e1 e2
          cases x3 <;> cases y3
          all_goals first | (exact absurd rfl e3) | skip
          all_goals
            refine Cd.enter' Try.func38 rfl Try.ntmps38 rfl ?_
            repeat' (first | ((with_reducible refine kAL ?_); (first | refine A_box rfl rfl 66 _ rfl rfl (.push qL qN) ?_ | refine A_as rfl rfl rfl rfl ?_ | (refine kL 2116 rfl ?_; (first | refine A_field rfl rfl 66 _ 0 rfl ud66 rfl inf3 (by decide) 0 rfl rfl ?_ | refine A_field rfl rfl 66 _ 1 rfl ud66 rfl inf3 (by decide) 1 rfl rfl ?_ | refine A_field rfl rfl 66 _ 2 rfl ud66 rfl inf4 (by decide) 2 rfl rfl ?_)) | refine A_load rfl rfl 3 _ rfl ud3 rfl rfl rfl rfl ?_ | (refine kL 105 rfl ?_; (first | refine A_cmp (d := 9) rfl rfl (c := true) .eql 3 3 _ _ rfl rfl rfl (by exact congrArg some (decide_eq_true (by (try (dsimp only; fail_if_success done)); omega))) ?_ | refine A_cmp (d := 15) rfl rfl (c := true) .eql 3 3 _ _ rfl rfl rfl (by exact congrArg some (decide_eq_true (by (try (dsimp only; fail_if_success done)); omega))) ?_)) | refine A_mt rfl rfl rfl rfl ?_ | (refine kL 19 rfl ?_; (first | refine A_pkt rfl rfl _ _ _ rfl rfl rfl ?_ | refine A_pkf rfl rfl _ _ _ rfl rfl rfl ?_)) | refine A_load rfl rfl 4 _ rfl ud4 rfl rfl rfl rfl ?_ | refine A_beq rfl rfl 4 4 _ _ rfl ud4 rfl rfl ?_ | refine AL.nil ?_ | refine AL.skip rfl rfl ?_)) | with_reducible refine AW.at_region _ ?_ | (with_reducible (first | refine wk0 ?_ | refine wk2 ?_ | refine wk9 ?_ | refine wkb ?_)))
            all_goals first | (exfalso; omega) | (exact Fin.q Try.results38 (.cons (.tmp rfl) .nil) [])
      · subst e1
        refine Cd.enter' Try.func38 rfl Try.ntmps38 rfl ?_
        repeat' (first | ((with_reducible refine kAL ?_); (first | refine A_box rfl rfl 66 _ rfl rfl (.push qL qN) ?_ | refine A_as rfl rfl rfl rfl ?_ | (refine kL 2116 rfl ?_; (first | refine A_field rfl rfl 66 _ 0 rfl ud66 rfl inf3 (by decide) 0 rfl rfl ?_ | refine A_field rfl rfl 66 _ 1 rfl ud66 rfl inf3 (by decide) 1 rfl rfl ?_)) | refine A_load rfl rfl 3 _ rfl ud3 rfl rfl rfl rfl ?_ | (refine kL 105 rfl ?_; (first | refine A_cmp (d := 9) rfl rfl (c := true) .eql 3 3 _ _ rfl rfl rfl (by exact congrArg some (decide_eq_true (by (try (dsimp only; fail_if_success done)); omega))) ?_ | refine A_cmp (d := 15) rfl rfl (c := false) .eql 3 3 _ _ rfl rfl rfl (by exact congrArg some (decide_eq_false (by (try (dsimp only; fail_if_success done)); omega))) ?_)) | refine A_mt rfl rfl rfl rfl ?_ | (refine kL 19 rfl ?_; (first | refine A_pkt rfl rfl _ _ _ rfl rfl rfl ?_ | refine A_pkf rfl rfl _ _ _ rfl rfl rfl ?_)) | refine AL.nil ?_ | refine AL.skip rfl rfl ?_)) | with_reducible refine AW.at_region _ ?_ | (with_reducible (first | refine wk0 ?_ | refine wk2 ?_ | refine wk9 ?_ | refine wkb ?_)))
        all_goals first | (exfalso; omega) | (exact Fin.q Try.results38 (.cons (.tmp rfl) .nil) [])
    · refine Cd.enter' Try.func38 rfl Try.ntmps38 rfl ?_
      repeat' (first | ((with_reducible refine kAL ?_); (first | refine A_box rfl rfl 66 _ rfl rfl (.push qL qN) ?_ | refine A_as rfl rfl rfl rfl ?_ | refine A_field rfl rfl 66 _ 0 rfl ud66 rfl inf3 (by decide) 0 rfl rfl ?_ | refine A_load rfl rfl 3 _ rfl ud3 rfl rfl rfl rfl ?_ | refine A_cmp (d := 9) rfl rfl (c := false) .eql 3 3 _ _ rfl rfl rfl (by exact congrArg some (decide_eq_false (by (try (dsimp only; fail_if_success done)); omega))) ?_ | refine A_mt rfl rfl rfl rfl ?_ | (refine kL 19 rfl ?_; refine A_pkf rfl rfl _ _ _ rfl rfl rfl ?_) | refine AL.nil ?_ | refine AL.skip rfl rfl ?_)) | with_reducible refine AW.at_region _ ?_ | (with_reducible (first | refine wk0 ?_ | refine wk2 ?_ | refine wk9 ?_ | refine wkb ?_)))
      all_goals first | (exfalso; omega) | (exact Fin.q Try.results38 (.cons (.tmp rfl) .nil) [])
theorem DHall_ex {a b : DHall} : a = b ↔ a.ticket = b.ticket ∧ a.chans = b.chans ∧ a.waits = b.waits ∧ a.done = b.done := by
  obtain ⟨a1, a2, a3, a4⟩ := a; obtain ⟨b1, b2, b3, b4⟩ := b; simp
structure okHl (h : DHall) : Prop where
  c : h.chans.length ≤ 2932031007402
  b : ∀ x ∈ h.chans, x.buf.length ≤ 17592186043904
  w : okW h.waits
  d : h.done.length ≤ 4398046511104
structure okHc (h : DHall) : Prop where
  c : h.chans.length ≤ 1152921504606846976
  b : ∀ x ∈ h.chans, x.buf.length ≤ 1152921504606846976
  w : okW h.waits
  d : h.done.length ≤ 1152921504606846976
theorem okHl.hc {h : DHall} (k : okHl h) : okHc h := ⟨by have := k.c; omega, fun x hx => by have := k.b x hx; omega, k.w, by have := k.d; omega⟩
set_option maxHeartbeats 8000000 in
theorem hall_c (a b : DHall) (ha : okHc a) : Cd Try.prog 12 [aHl a, aHl b] (bo (decide (a = b))) [] := by
  have h1 : (a.chans.map tCh).length = a.chans.length := List.length_map _
  have h2 : (b.chans.map tCh).length = b.chans.length := List.length_map _
  have cW := waits_c a.waits b.waits ha.w
  have cR := results_c a.done b.done (by have := ha.d; omega)
  have hc0 := ha.c
  by_cases e1 : a.ticket = b.ticket
  · by_cases e2 : a.chans.length = b.chans.length
    · refine Cd.enter' Try.func12 rfl Try.ntmps12 rfl ?_
      repeat' (first | ((with_reducible refine kAL ?_); (first | refine A_box rfl rfl 29 _ rfl rfl (.push qL qN) ?_ | refine A_as rfl rfl rfl rfl ?_ | (refine kL 932 rfl ?_; (first | refine A_field rfl rfl 29 _ 0 rfl ud29 rfl inf3 (by decide) 0 rfl rfl ?_ | refine A_field rfl rfl 29 _ 1 rfl ud29 rfl inf25 (by decide) 1 rfl rfl ?_)) | refine A_load rfl rfl 3 _ rfl ud3 rfl rfl rfl rfl ?_ | (refine kL 105 rfl ?_; (first | refine A_cmp (d := 10) rfl rfl (c := false) .neq 3 3 _ _ rfl rfl rfl (by exact congrArg some (decide_eq_false (by (try (dsimp only; fail_if_success done)); omega))) ?_ | refine A_cmp (d := 18) rfl rfl (c := false) .neq 3 3 _ _ rfl rfl rfl (by exact congrArg some (decide_eq_false (by (try (dsimp only; fail_if_success done)); omega))) ?_)) | refine A_mt rfl rfl rfl rfl ?_ | refine A_load rfl rfl 25 _ rfl ud25 rfl rfl rfl rfl ?_ | refine A_len rfl rfl 25 _ rfl ud25 rfl ?_ | (refine kL 19 rfl ?_; refine A_pkf rfl rfl _ _ _ rfl rfl rfl ?_) | refine AL.nil ?_)) | (with_reducible (first | refine wk0 ?_ | refine wk1 ?_ | refine wk2 ?_ | refine wkd ?_)) | refine kcf rfl ?_ | with_reducible refine AW.at_region _ ?_)
      all_goals first | (exfalso; omega) | skip
      refine AW.loopP (fun (i : Nat) => i ≤ a.chans.length ∧ ∀ j, j < i → a.chans.getD j default = b.chans.getD j default) (fun (i : Nat) => (pu (pu (pu (pu (fun _ => .any) 2 (.ptr 0 0)) 3 (.ptr 1 0)) 22 (i64 (a.chans.map tCh).length)) 23 (i64 i))) (fun (i : Nat) => [.box 29 [i64 a.ticket, .ln (a.chans.map tCh), .ln (a.waits.map tWt), .ln (a.done.map tR)], .box 29 [i64 b.ticket, .ln (b.chans.map tCh), .ln (b.waits.map tWt), .ln (b.done.map tR)]]) (fun (i : Nat) => a.chans.length - i) (0) ?_ ?_ ?_
      · exact ⟨Nat.zero_le _, fun j hj => by omega⟩
      · exact Wk.cq 2
      · intro i hi
        by_cases hq : i < a.chans.length
        · obtain ⟨x, hx⟩ : ∃ x, a.chans[i]? = some x := ⟨_, List.getElem?_eq_getElem hq⟩
          obtain ⟨y, hy⟩ : ∃ y, b.chans[i]? = some y := ⟨_, List.getElem?_eq_getElem (by omega)⟩
          have cC := chan_c x y (by have := ha.b x (List.mem_of_getElem? hx); omega)
          by_cases e : x = y
          · rw [decide_eq_true e] at cC
            have hn : ∀ j, j < i + 1 → a.chans.getD j default = b.chans.getD j default := fun j hj => by
              by_cases ej : j = i
              · subst ej; rw [getD_of hx, getD_of hy]; exact e
              · exact hi.2 j (by omega)
            obtain ⟨x1, x2, x3, x4, x5⟩ := x
            obtain ⟨y1, y2, y3, y4, y5⟩ := y
            repeat' (first | ((with_reducible refine kAL ?_); (first | refine A_as rfl rfl rfl rfl ?_ | (refine kL 105 rfl ?_; (first | refine A_cmp (d := 24) rfl rfl (c := true) .lss 3 3 _ _ rfl rfl rfl (by exact congrArg some (decide_eq_true (by (try (dsimp only; fail_if_success done)); omega))) ?_ | refine A_add rfl rfl 3 3 _ _ rfl rfl rfl (by exact wi) ?_)) | refine A_mt rfl rfl rfl rfl ?_ | refine AL.nil ?_)) | ((with_reducible refine kRG ?_); (first | refine R_field rfl rfl 29 _ 1 rfl ud29 rfl inf25 (by decide) 1 rfl rfl ?_ | refine R_load rfl rfl 25 _ rfl ud25 rfl rfl rfl rfl ?_ | refine R_mt rfl rfl rfl rfl ?_ | (refine kR 806 rfl ?_; refine R_idx rfl rfl 25 _ _ rfl ud25 inf66 (by decide) (by exact .inl rfl) rfl (by omega) _ (by with_reducible exact Int.toNat_natCast _) (by exact map_get (by assumption)) rfl (cs' := [_, _, _, _, _]) rfl ?_) | refine R_load_lp_agg rfl rfl 66 _ rfl ud66 rfl inf66 rfl (us' := [_, _, _, _, _]) rfl rfl ?_ | (refine kR 1226 rfl ?_; (refine R_cl rfl rfl Try.func38 rfl (cC) ?_; refine ⟨0, _, _, _, rfl, qU, qU, qZ, ?_⟩)) | refine R_not rfl rfl _ _ rfl rfl ?_ | refine RG.nil ⟨by kernel_rfl, ?_⟩)) | (with_reducible (first | refine wk0 ?_ | refine wk1 ?_ | refine wk2 ?_ | refine wk5 ?_ | refine wkd ?_)) | refine kct rfl ?_ | refine kcf rfl ?_ | with_reducible refine AW.at_region _ ?_ | refine AW.at_draw 6 mixed 0 [[], [0], [], [0, 1, 2], [0, 1, 2, 3], [], [5], [], [5, 6, 7], [5, 6, 7, 8], [0, 1, 2, 3, 4, 5, 6, 7, 8, 9], [0, 1, 2, 3, 4, 5, 6, 7, 8, 9, 10]] qR ?_)
            all_goals first | (exfalso; omega) | skip
            refine ⟨i + 1, ⟨by omega, hn⟩, by omega, ?_⟩
            exact Wk.cq 2
          · rw [decide_eq_false e] at cC
            rw [decide_eq_false (show ¬ a = b by rintro rfl; rw [hx] at hy; cases hy; exact e rfl)]
            obtain ⟨x1, x2, x3, x4, x5⟩ := x
            obtain ⟨y1, y2, y3, y4, y5⟩ := y
            repeat' (first | ((with_reducible refine kAL ?_); (first | refine A_as rfl rfl rfl rfl ?_ | refine A_cmp (d := 24) rfl rfl (c := true) .lss 3 3 _ _ rfl rfl rfl (by exact congrArg some (decide_eq_true (by (try (dsimp only; fail_if_success done)); omega))) ?_ | refine A_mt rfl rfl rfl rfl ?_ | refine AL.nil ?_)) | ((with_reducible refine kRG ?_); (first | refine R_field rfl rfl 29 _ 1 rfl ud29 rfl inf25 (by decide) 1 rfl rfl ?_ | refine R_load rfl rfl 25 _ rfl ud25 rfl rfl rfl rfl ?_ | refine R_mt rfl rfl rfl rfl ?_ | (refine kR 806 rfl ?_; refine R_idx rfl rfl 25 _ _ rfl ud25 inf66 (by decide) (by exact .inl rfl) rfl (by omega) _ (by with_reducible exact Int.toNat_natCast _) (by exact map_get (by assumption)) rfl (cs' := [_, _, _, _, _]) rfl ?_) | refine R_load_lp_agg rfl rfl 66 _ rfl ud66 rfl inf66 rfl (us' := [_, _, _, _, _]) rfl rfl ?_ | (refine kR 1226 rfl ?_; (refine R_cl rfl rfl Try.func38 rfl (cC) ?_; refine ⟨0, _, _, _, rfl, qU, qU, qZ, ?_⟩)) | refine R_not rfl rfl _ _ rfl rfl ?_ | refine RG.nil ⟨by kernel_rfl, ?_⟩)) | (with_reducible (first | refine wk0 ?_ | refine wk1 ?_ | refine wk2 ?_ | refine wk3 ?_ | refine wk6 ?_ | refine wk9 ?_ | refine wkb ?_ | refine wkd ?_)) | refine kct rfl ?_ | with_reducible refine AW.at_region _ ?_ | refine AW.at_draw 6 mixed 0 [[], [0], [], [0, 1, 2], [0, 1, 2, 3], [], [5], [], [5, 6, 7], [5, 6, 7, 8], [0, 1, 2, 3, 4, 5, 6, 7, 8, 9], [0, 1, 2, 3, 4, 5, 6, 7, 8, 9, 10]] qR ?_)
            all_goals first | (exfalso; omega) | (exact Fin.q Try.results12 (.cons (.tmp rfl) .nil) [])
        · have e3 : a.chans = b.chans := all_eq (z := default) (by omega) fun j hj => hi.2 j (by omega)
          by_cases e4 : a.waits = b.waits
          · rw [decide_eq_true e4] at cW
            rw [decide_eq_decide.2 (show a = b ↔ a.done = b.done by rw [DHall_ex]; simp [e1, e3, e4])]
            repeat' (first | ((with_reducible refine kAL ?_); (first | refine A_as rfl rfl rfl rfl ?_ | (refine kL 932 rfl ?_; (first | refine A_field rfl rfl 29 _ 2 rfl ud29 rfl inf26 (by decide) 2 rfl rfl ?_ | refine A_field rfl rfl 29 _ 3 rfl ud29 rfl inf27 (by decide) 3 rfl rfl ?_)) | refine A_cmp (d := 24) rfl rfl (c := false) .lss 3 3 _ _ rfl rfl rfl (by exact congrArg some (decide_eq_false (by (try (dsimp only; fail_if_success done)); omega))) ?_ | refine A_mt rfl rfl rfl rfl ?_ | (refine kL 19 rfl ?_; refine A_pkt rfl rfl _ _ _ rfl rfl rfl ?_) | refine A_load rfl rfl 26 _ rfl ud26 rfl rfl rfl rfl ?_ | (refine kL 1258 rfl ?_; refine A_cl rfl rfl Try.func39 rfl (cW) ?_) | refine A_load rfl rfl 27 _ rfl ud27 rfl rfl rfl rfl ?_ | (refine kL 1290 rfl ?_; refine A_cl rfl rfl Try.func40 rfl (cR) ?_) | refine AL.nil ?_)) | (with_reducible (first | refine wk0 ?_ | refine wk2 ?_ | refine wk4 ?_ | refine wk7 ?_ | refine wk9 ?_ | refine wkb ?_ | refine wkc ?_)) | refine kcf rfl ?_ | with_reducible refine AW.at_region _ ?_)
            all_goals first | (exfalso; omega) | (exact Fin.q Try.results12 (.cons (.tmp rfl) .nil) [])
          · rw [decide_eq_false e4] at cW
            rw [decide_eq_false (show ¬ a = b by rw [DHall_ex]; simp [e4])]
            repeat' (first | ((with_reducible refine kAL ?_); (first | refine A_as rfl rfl rfl rfl ?_ | refine A_field rfl rfl 29 _ 2 rfl ud29 rfl inf26 (by decide) 2 rfl rfl ?_ | refine A_cmp (d := 24) rfl rfl (c := false) .lss 3 3 _ _ rfl rfl rfl (by exact congrArg some (decide_eq_false (by (try (dsimp only; fail_if_success done)); omega))) ?_ | refine A_mt rfl rfl rfl rfl ?_ | (refine kL 19 rfl ?_; refine A_pkf rfl rfl _ _ _ rfl rfl rfl ?_) | refine A_load rfl rfl 26 _ rfl ud26 rfl rfl rfl rfl ?_ | (refine kL 1258 rfl ?_; refine A_cl rfl rfl Try.func39 rfl (cW) ?_) | refine AL.nil ?_ | refine AL.skip rfl rfl ?_)) | (with_reducible (first | refine wk0 ?_ | refine wk2 ?_ | refine wk4 ?_ | refine wk7 ?_ | refine wk9 ?_ | refine wkb ?_ | refine wkc ?_)) | refine kcf rfl ?_ | with_reducible refine AW.at_region _ ?_)
            all_goals first | (exfalso; omega) | (exact Fin.q Try.results12 (.cons (.tmp rfl) .nil) [])
    · rw [decide_eq_false (show ¬ a = b by rintro rfl; exact e2 rfl)]
      refine Cd.enter' Try.func12 rfl Try.ntmps12 rfl ?_
      repeat' (first | ((with_reducible refine kAL ?_); (first | refine A_box rfl rfl 29 _ rfl rfl (.push qL qN) ?_ | refine A_as rfl rfl rfl rfl ?_ | (refine kL 932 rfl ?_; (first | refine A_field rfl rfl 29 _ 0 rfl ud29 rfl inf3 (by decide) 0 rfl rfl ?_ | refine A_field rfl rfl 29 _ 1 rfl ud29 rfl inf25 (by decide) 1 rfl rfl ?_)) | refine A_load rfl rfl 3 _ rfl ud3 rfl rfl rfl rfl ?_ | (refine kL 105 rfl ?_; (first | refine A_cmp (d := 10) rfl rfl (c := false) .neq 3 3 _ _ rfl rfl rfl (by exact congrArg some (decide_eq_false (by (try (dsimp only; fail_if_success done)); omega))) ?_ | refine A_cmp (d := 18) rfl rfl (c := true) .neq 3 3 _ _ rfl rfl rfl (by exact congrArg some (decide_eq_true (by (try (dsimp only; fail_if_success done)); omega))) ?_)) | refine A_mt rfl rfl rfl rfl ?_ | refine A_load rfl rfl 25 _ rfl ud25 rfl rfl rfl rfl ?_ | refine A_len rfl rfl 25 _ rfl ud25 rfl ?_ | (refine kL 19 rfl ?_; refine A_pkf rfl rfl _ _ _ rfl rfl rfl ?_) | refine AL.nil ?_)) | (with_reducible (first | refine wk0 ?_ | refine wk2 ?_ | refine wk3 ?_ | refine wk9 ?_ | refine wkb ?_)) | refine kct rfl ?_ | with_reducible refine AW.at_region _ ?_)
      all_goals first | (exfalso; omega) | (exact Fin.q Try.results12 (.cons (.tmp rfl) .nil) [])
  · rw [decide_eq_false (show ¬ a = b by rintro rfl; exact e1 rfl)]
    refine Cd.enter' Try.func12 rfl Try.ntmps12 rfl ?_
    repeat' (first | ((with_reducible refine kAL ?_); (first | refine A_box rfl rfl 29 _ rfl rfl (.push qL qN) ?_ | refine A_as rfl rfl rfl rfl ?_ | refine A_field rfl rfl 29 _ 0 rfl ud29 rfl inf3 (by decide) 0 rfl rfl ?_ | refine A_load rfl rfl 3 _ rfl ud3 rfl rfl rfl rfl ?_ | refine A_cmp (d := 10) rfl rfl (c := true) .neq 3 3 _ _ rfl rfl rfl (by exact congrArg some (decide_eq_true (by (try (dsimp only; fail_if_success done)); omega))) ?_ | refine A_mt rfl rfl rfl rfl ?_ | (refine kL 19 rfl ?_; refine A_pkt rfl rfl _ _ _ rfl rfl rfl ?_) | refine AL.nil ?_ | refine AL.skip rfl rfl ?_)) | (with_reducible (first | refine wk0 ?_ | refine wk2 ?_ | refine wk3 ?_ | refine wk9 ?_ | refine wkb ?_)) | refine kct rfl ?_ | with_reducible refine AW.at_region _ ?_)
    all_goals first | (exfalso; omega) | (exact Fin.q Try.results12 (.cons (.tmp rfl) .nil) [])
theorem hall_same (a : DHall) (ha : okHc a) : Cd Try.prog 12 [aHl a, aHl a] (bo true) [] := by
  have := hall_c a a ha
  rwa [decide_eq_true rfl] at this
end Go.Proofs.Ytphcebioiipdpaa


namespace Go.Proofs.Ytphcebioiipdpaa
set_option linter.unusedVariables false
set_option linter.unusedSimpArgs false
set_option linter.unnecessarySimpa false
open Go.RowKit
set_option maxHeartbeats 32000000
attribute [local irreducible] AL AW RG Fin C Cd Cio thenQ blockQ retQ
set_option maxRecDepth 100000
theorem hplace_c (h : Int) (h1 : -9223372036854775808 ≤ h ∧ h ≤ 9223372036854775807) : Cd Try.prog 42 [i64 h] (.tup [i64 (plP h), i64 (plG h), bo (plOk h)]) [] := by
  by_cases hk : 8 ≤ h ∧ h ≤ 32767
  · rw [(pl_yes hk.1 hk.2).1, (pl_yes hk.1 hk.2).2.1, (pl_yes hk.1 hk.2).2.2]
    refine Cd.enter' Try.func42 rfl Try.ntmps42 rfl ?_
    repeat' (first | ((with_reducible refine kAL ?_); (first | refine A_as rfl rfl rfl rfl ?_ | refine A_mt rfl rfl rfl rfl ?_ | (refine kL 105 rfl ?_; (first | refine A_cmp (d := 6) rfl rfl (c := false) .lss 3 3 _ _ rfl rfl rfl (by exact congrArg some (decide_eq_false (by (try (dsimp only; fail_if_success done)); omega))) ?_ | refine A_cmp (d := 9) rfl rfl (c := false) .geq 3 3 _ _ rfl rfl rfl (by exact congrArg some (decide_eq_false (by (try (dsimp only; fail_if_success done)); omega))) ?_ | refine A_rem rfl rfl 3 3 _ _ rfl rfl rfl (by decide) (by exact IntWalk.rem_in _ _ (by omega)) ?_ | refine A_quo rfl rfl 3 3 _ _ rfl rfl rfl (by decide) (by exact IntWalk.i64_quo _ _ (by omega)) ?_)) | refine A_pick rfl rfl _ _ _ rfl rfl rfl rfl rfl ?_ | refine AL.nil ?_)) | with_reducible refine AW.at_region _ ?_ | (with_reducible (first | refine wk0 ?_ | refine wk2 ?_ | refine wk9 ?_ | refine wkb ?_ | refine wkd ?_)) | refine kcf rfl ?_)
    all_goals first | (exfalso; omega) | (exact Fin.q Try.results42 (.cons (.tmp rfl) (.cons (.tmp rfl) (.cons (.tmp rfl) .nil))) [])
  · rw [(pl_no hk).1, (pl_no hk).2.1, (pl_no hk).2.2]
    refine Cd.enter' Try.func42 rfl Try.ntmps42 rfl ?_
    repeat' (first | ((with_reducible refine kAL ?_); (first | refine A_as rfl rfl rfl rfl ?_ | refine A_mt rfl rfl rfl rfl ?_ | (refine kL 105 rfl ?_; (first | refine A_cmp (d := 9) rfl rfl (c := true) .geq 3 3 _ _ rfl rfl rfl (by exact congrArg some (decide_eq_true (by (try (dsimp only; fail_if_success done)); omega))) ?_ | refine A_cmp (d := 6) rfl rfl .lss 3 3 _ _ rfl rfl rfl rfl ?_)) | refine A_pick rfl rfl _ _ _ rfl rfl rfl rfl rfl ?_ | refine AL.nil ?_ | refine AL.skip rfl rfl ?_ | (refine AL.split 7 rfl (fun hb => ?_) (fun hb => ?_) <;> (try simp only [decide_eq_true_eq, decide_eq_false_iff_not, Bool.not_eq_true', Bool.not_eq_false'] at hb) <;> (first | refine AL.skip rfl rfl ?_ | refine AL.need rfl ?_)))) | with_reducible refine AW.at_region _ ?_ | (with_reducible (first | refine wk0 ?_ | refine wk2 ?_ | refine wk3 ?_ | refine wk9 ?_ | refine wkb ?_)) | refine kct rfl ?_)
    all_goals first | (exfalso; omega) | (exact Fin.q Try.results42 (.cons (.tmp rfl) (.cons (.tmp rfl) (.cons (.tmp rfl) .nil))) [])
theorem hplaceR_c (h : Int) (h1 : -9223372036854775808 ≤ h ∧ h ≤ 9223372036854775807) : Cd Try.prog 41 [i64 h] (.tup [i64 (plP h), i64 (plG h), bo (plOk h)]) [] := by
  by_cases hk : 8 ≤ h ∧ h ≤ 32767
  · rw [(pl_yes hk.1 hk.2).1, (pl_yes hk.1 hk.2).2.1, (pl_yes hk.1 hk.2).2.2]
    have e1 : h - h / 8 * 8 = h % 8 := by omega
    refine Cd.enter' Try.func41 rfl Try.ntmps41 rfl ?_
    repeat' (first | ((with_reducible refine kAL ?_); (first | refine A_as rfl rfl rfl rfl ?_ | refine A_mt rfl rfl rfl rfl ?_ | (refine kL 105 rfl ?_; (first | refine A_cmp (d := 6) rfl rfl (c := false) .lss 3 3 _ _ rfl rfl rfl (by exact congrArg some (decide_eq_false (by (try (dsimp only; fail_if_success done)); omega))) ?_ | refine A_cmp (d := 9) rfl rfl (c := false) .gtr 3 3 _ _ rfl rfl rfl (by exact congrArg some (decide_eq_false (by (try (dsimp only; fail_if_success done)); omega))) ?_ | refine A_quo rfl rfl 3 3 _ _ rfl rfl rfl (by decide) (by exact IntWalk.i64_quo _ _ (by omega)) ?_ | refine A_mul rfl rfl 3 3 _ _ rfl rfl rfl (by first | exact wi | rfl) ?_ | refine A_sub rfl rfl 3 3 _ _ rfl rfl rfl (by exact wi) ?_)) | refine A_pick rfl rfl _ _ _ rfl rfl rfl rfl rfl ?_ | refine AL.nil ?_)) | with_reducible refine AW.at_region _ ?_ | (with_reducible (first | refine wk0 ?_ | refine wk2 ?_ | refine wk9 ?_ | refine wkb ?_ | refine wkd ?_)) | refine kcf rfl ?_)
    all_goals first | (exfalso; omega) | (refine Fin.q Try.results41 (.cons (.tmp rfl) (.cons (.tmp rfl) (.cons (.tmp rfl) .nil))) [] (hr := (.tupL (.cons (.t ?_) (.cons (.t ?_) (.cons (.t ?_) .nil))))))
    all_goals first | (rw [e1]; done) | rfl | skip
  · rw [(pl_no hk).1, (pl_no hk).2.1, (pl_no hk).2.2]
    refine Cd.enter' Try.func41 rfl Try.ntmps41 rfl ?_
    repeat' (first | ((with_reducible refine kAL ?_); (first | refine A_as rfl rfl rfl rfl ?_ | refine A_mt rfl rfl rfl rfl ?_ | (refine kL 105 rfl ?_; (first | refine A_cmp (d := 9) rfl rfl (c := true) .gtr 3 3 _ _ rfl rfl rfl (by exact congrArg some (decide_eq_true (by (try (dsimp only; fail_if_success done)); omega))) ?_ | refine A_cmp (d := 6) rfl rfl .lss 3 3 _ _ rfl rfl rfl rfl ?_)) | refine A_pick rfl rfl _ _ _ rfl rfl rfl rfl rfl ?_ | refine AL.nil ?_ | refine AL.skip rfl rfl ?_ | (refine AL.split 7 rfl (fun hb => ?_) (fun hb => ?_) <;> (try simp only [decide_eq_true_eq, decide_eq_false_iff_not, Bool.not_eq_true', Bool.not_eq_false'] at hb) <;> (first | refine AL.skip rfl rfl ?_ | refine AL.need rfl ?_)))) | with_reducible refine AW.at_region _ ?_ | (with_reducible (first | refine wk0 ?_ | refine wk2 ?_ | refine wk3 ?_ | refine wk9 ?_ | refine wkb ?_)) | refine kct rfl ?_)
    all_goals first | (exfalso; omega) | (exact Fin.q Try.results41 (.cons (.tmp rfl) (.cons (.tmp rfl) (.cons (.tmp rfl) .nil))) [])
end Go.Proofs.Ytphcebioiipdpaa


namespace Go.Proofs.Ytphcebioiipdpaa
set_option linter.unusedVariables false
set_option linter.unusedSimpArgs false
set_option linter.unnecessarySimpa false
open Go.RowKit
set_option maxHeartbeats 32000000
attribute [local irreducible] AL AW RG Fin C Cd Cio thenQ blockQ retQ
set_option maxRecDepth 100000
theorem clone_R (l : List Rst) (h : l.length ≤ 4398046511104) : Cd Try.prog 51 [.ln (l.map tR)] (.sl 0 0 l.length) [.row 0 50 4 (l.map tR)] := by
  refine Cd.enter' Try.func51 rfl Try.ntmps51 rfl ?_
  repeat' (first | ((with_reducible refine kAL ?_); (first | (refine kL 1 rfl ?_; (first | refine A_move rfl rfl _ (.inr rfl) (y := .sl _ _ _) rfl ?_ | refine A_move rfl rfl _ (.inr rfl) (y := .nl) rfl ?_)) | refine A_move rfl rfl _ (.inl rfl) (y := .ln _) rfl ?_ | (refine kL 873 rfl ?_; (refine A_eqnil rfl rfl 27 _ _ rfl ud27 rfl (fun b hb => ?_))) | (refine kL 879 rfl ?_; refine A_lit0 rfl rfl 27 rfl ud27 inf50 ?_) | (refine kL 12 rfl ?_; (refine A_append_nl rfl rfl _ _ 27 rfl ud27 inf50 rfl rfl (by exact .ln (by exact each_map (fun _ => rfl))) qB qB (by ((try simp only [List.take_zero, List.take_succ_cons, List.drop_zero, List.drop_succ_cons, List.nil_append, List.cons_append, List.append_nil, List.length_cons, List.length_nil, List.set_cons_zero, List.set_cons_succ, List.map_cons, List.map_nil, List.take_nil, List.drop_nil, Nat.zero_add, Nat.add_zero, Nat.reduceAdd, Nat.reduceSub]); rfl)) (.push qL qN) qS ?_)) | refine AL.nil ?_)) | with_reducible refine AW.at_region _ ?_ | (with_reducible (first | refine wk0 ?_ | refine wk2 ?_ | refine wk3 ?_ | refine wk9 ?_ | refine wkb ?_ | refine wkd ?_)) | refine kcc rfl (fun hc => ?_) (fun hc => ?_))
  · have hl : l = [] := by simpa using hb hc
    subst hl
    refine Fin.wk (Wk.own 2 rfl 50 4 (.push rfl rfl)) ?_
    exact Fin.q Try.results51 (.cons (.tmp rfl) .nil) [0]
  · exact Fin.q Try.results51 (.cons (.tmp rfl) .nil) [0]
end Go.Proofs.Ytphcebioiipdpaa


namespace Go.Proofs.Ytphcebioiipdpaa
set_option linter.unusedVariables false
set_option linter.unusedSimpArgs false
set_option linter.unnecessarySimpa false
open Go.RowKit
set_option maxHeartbeats 32000000
attribute [local irreducible] AL AW RG Fin C Cd Cio thenQ blockQ retQ
set_option maxRecDepth 100000
theorem fnd_at {h : DHall} {x : Int} {n : Nat} {c : DChan} (h1 : plOk x = true) (h2 : plP x = n) (hc : h.chans[n]? = some c) : fndOk h x = (c.used && decide (c.gen = plG x)) ∧ fndP h x = if (c.used && decide (c.gen = plG x)) = true then (n : Int) else 0 := by
  have hl := get_lt hc
  have hg : chA h (n : Int) = c := by unfold chA; rw [Int.toNat_natCast, getD_of hc]
  have e : fndOk h x = (c.used && decide (c.gen = plG x)) := by unfold fndOk; rw [h1, h2, hg, decide_eq_true (by omega)]; simp
  exact ⟨e, by unfold fndP; rw [e, h2]⟩
theorem fnd_out {h : DHall} {x : Int} {n : Nat} (h2 : plP x = n) (hc : ¬ n < h.chans.length) : fndOk h x = false := by unfold fndOk; rw [h2, decide_eq_false (by omega)]; simp
theorem fnd_bad {h : DHall} {x : Int} (h1 : plOk x = false) : fndOk h x = false := by unfold fndOk; rw [h1]; simp
theorem plP_nat (x : Int) : ∃ n : Nat, plP x = n := by
  by_cases hk : 8 ≤ x ∧ x ≤ 32767
  · rw [(pl_yes hk.1 hk.2).1]; exact ⟨(x % 8).toNat, by omega⟩
  · rw [(pl_no hk).1]; exact ⟨0, rfl⟩
set_option maxHeartbeats 8000000 in
theorem find_c (h : DHall) (x : Int) (hx : sI x) (h0 : h.chans.length ≤ 2932031007402) : Cd Try.prog 19 [aHl h, i64 x] (.tup [i64 (fndP h x), bo (fndOk h x)]) [] := by
  have h1 : (h.chans.map tCh).length = h.chans.length := List.length_map _
  have cP := hplace_c x hx
  obtain ⟨n, hn⟩ := plP_nat x
  cases hp : plOk x
  · have e := fnd_bad (h := h) hp
    rw [e, fnd_no e]
    rw [hp, hn] at cP
    refine Cd.enter' Try.func19 rfl Try.ntmps19 rfl ?_
    repeat' (first | ((with_reducible refine kAL ?_); (first | refine A_box rfl rfl 29 _ rfl rfl (.push qL qN) ?_ | refine A_as rfl rfl rfl rfl ?_ | (refine kL 0 rfl ?_; (first | refine A_mt rfl rfl rfl rfl ?_ | refine A_move rfl rfl _ (.inl rfl) (y := .tup _) rfl ?_)) | (refine kL 1354 rfl ?_; refine A_cl rfl rfl Try.func42 rfl (cP) ?_) | (refine kL 18 rfl ?_; (first | refine A_extract rfl rfl _ 0 rfl rfl rfl ?_ | refine A_extract rfl rfl _ 1 rfl rfl rfl ?_ | refine A_extract rfl rfl _ 2 rfl rfl rfl ?_)) | refine A_not rfl rfl _ _ rfl rfl ?_ | (refine kL 19 rfl ?_; refine A_pkt rfl rfl _ _ _ rfl rfl rfl ?_) | refine AL.nil ?_ | refine AL.skip rfl rfl ?_)) | with_reducible refine AW.at_region _ ?_ | (with_reducible (first | refine wk0 ?_ | refine wk2 ?_ | refine wk3 ?_ | refine wk9 ?_ | refine wkb ?_)) | refine kct rfl ?_)
    all_goals first | (exfalso; omega) | (exact Fin.q Try.results19 (.cons (.tmp rfl) (.cons (.tmp rfl) .nil)) [])
  · by_cases hl : n < h.chans.length
    · obtain ⟨⟨g, cap, used, closed, buf⟩, hc⟩ : ∃ c, h.chans[n]? = some c := ⟨_, List.getElem?_eq_getElem hl⟩
      have e := fnd_at hp hn hc
      dsimp only at e
      rw [e.1, e.2]
      rw [hp, hn] at cP
      generalize plG x = pg at cP
      by_cases hg : g = pg
      · subst hg
        rw [decide_eq_true rfl]
        cases used
        all_goals
          refine Cd.enter' Try.func19 rfl Try.ntmps19 rfl ?_
          repeat' (first | ((with_reducible refine kAL ?_); (first | refine A_box rfl rfl 29 _ rfl rfl (.push qL qN) ?_ | refine A_as rfl rfl rfl rfl ?_ | (refine kL 0 rfl ?_; (first | refine A_mt rfl rfl rfl rfl ?_ | refine A_move rfl rfl _ (.inl rfl) (y := .tup _) rfl ?_)) | (refine kL 1354 rfl ?_; refine A_cl rfl rfl Try.func42 rfl (cP) ?_) | (refine kL 18 rfl ?_; (first | refine A_extract rfl rfl _ 0 rfl rfl rfl ?_ | refine A_extract rfl rfl _ 1 rfl rfl rfl ?_ | refine A_extract rfl rfl _ 2 rfl rfl rfl ?_)) | refine A_not rfl rfl _ _ rfl rfl ?_ | refine A_field rfl rfl 29 _ 1 rfl ud29 rfl inf25 (by decide) 1 rfl rfl ?_ | refine A_load rfl rfl 25 _ rfl ud25 rfl rfl rfl rfl ?_ | refine A_len rfl rfl 25 _ rfl ud25 rfl ?_ | (refine kL 105 rfl ?_; (first | refine A_cmp (d := 22) rfl rfl (c := false) .geq 3 3 _ _ rfl rfl rfl (by exact congrArg some (decide_eq_false (by (try (dsimp only; fail_if_success done)); omega))) ?_ | refine A_cmp (d := 41) rfl rfl (c := false) .neq 3 3 _ _ rfl rfl rfl (by exact congrArg some (decide_eq_false (by (try (dsimp only; fail_if_success done)); omega))) ?_)) | (refine kL 19 rfl ?_; (first | refine A_pkt rfl rfl _ _ _ rfl rfl rfl ?_ | refine A_pkf rfl rfl _ _ _ rfl rfl rfl ?_)) | (refine kL 806 rfl ?_; refine A_idx rfl rfl 25 _ _ rfl ud25 inf66 (by decide) (by exact .inl rfl) rfl (by omega) _ (by with_reducible exact Int.toNat_natCast _) (by exact map_get (by assumption)) rfl (cs' := [_, _, _, _, _]) rfl ?_) | (refine kL 2116 rfl ?_; (first | refine A_field rfl rfl 66 _ 2 rfl ud66 rfl inf4 (by decide) 2 rfl rfl ?_ | refine A_field rfl rfl 66 _ 0 rfl ud66 rfl inf3 (by decide) 0 rfl rfl ?_)) | refine A_load_lp rfl rfl 4 _ rfl ud4 rfl rfl rfl ?_ | refine A_load_lp rfl rfl 3 _ rfl ud3 rfl rfl rfl ?_ | refine AL.nil ?_ | refine AL.skip rfl rfl ?_)) | with_reducible refine AW.at_region _ ?_ | (with_reducible (first | refine wk0 ?_ | refine wk2 ?_ | refine wk3 ?_ | refine wk9 ?_ | refine wkb ?_ | refine wkd ?_)) | refine kct rfl ?_ | refine kcf rfl ?_)
          all_goals first | (exfalso; omega) | (exact Fin.q Try.results19 (.cons (.tmp rfl) (.cons (.tmp rfl) .nil)) [])
      · rw [decide_eq_false hg]
        cases used
        all_goals
          refine Cd.enter' Try.func19 rfl Try.ntmps19 rfl ?_
          repeat' (first | ((with_reducible refine kAL ?_); (first | refine A_box rfl rfl 29 _ rfl rfl (.push qL qN) ?_ | refine A_as rfl rfl rfl rfl ?_ | (refine kL 0 rfl ?_; (first | refine A_mt rfl rfl rfl rfl ?_ | refine A_move rfl rfl _ (.inl rfl) (y := .tup _) rfl ?_)) | (refine kL 1354 rfl ?_; refine A_cl rfl rfl Try.func42 rfl (cP) ?_) | (refine kL 18 rfl ?_; (first | refine A_extract rfl rfl _ 0 rfl rfl rfl ?_ | refine A_extract rfl rfl _ 1 rfl rfl rfl ?_ | refine A_extract rfl rfl _ 2 rfl rfl rfl ?_)) | refine A_not rfl rfl _ _ rfl rfl ?_ | refine A_field rfl rfl 29 _ 1 rfl ud29 rfl inf25 (by decide) 1 rfl rfl ?_ | refine A_load rfl rfl 25 _ rfl ud25 rfl rfl rfl rfl ?_ | refine A_len rfl rfl 25 _ rfl ud25 rfl ?_ | (refine kL 105 rfl ?_; (first | refine A_cmp (d := 22) rfl rfl (c := false) .geq 3 3 _ _ rfl rfl rfl (by exact congrArg some (decide_eq_false (by (try (dsimp only; fail_if_success done)); omega))) ?_ | refine A_cmp (d := 41) rfl rfl (c := true) .neq 3 3 _ _ rfl rfl rfl (by exact congrArg some (decide_eq_true (by (try (dsimp only; fail_if_success done)); omega))) ?_)) | (refine kL 19 rfl ?_; (first | refine A_pkt rfl rfl _ _ _ rfl rfl rfl ?_ | refine A_pkf rfl rfl _ _ _ rfl rfl rfl ?_)) | (refine kL 806 rfl ?_; refine A_idx rfl rfl 25 _ _ rfl ud25 inf66 (by decide) (by exact .inl rfl) rfl (by omega) _ (by with_reducible exact Int.toNat_natCast _) (by exact map_get (by assumption)) rfl (cs' := [_, _, _, _, _]) rfl ?_) | (refine kL 2116 rfl ?_; (first | refine A_field rfl rfl 66 _ 2 rfl ud66 rfl inf4 (by decide) 2 rfl rfl ?_ | refine A_field rfl rfl 66 _ 0 rfl ud66 rfl inf3 (by decide) 0 rfl rfl ?_)) | refine A_load_lp rfl rfl 4 _ rfl ud4 rfl rfl rfl ?_ | refine A_load_lp rfl rfl 3 _ rfl ud3 rfl rfl rfl ?_ | refine AL.nil ?_ | refine AL.skip rfl rfl ?_)) | with_reducible refine AW.at_region _ ?_ | (with_reducible (first | refine wk0 ?_ | refine wk2 ?_ | refine wk3 ?_ | refine wk9 ?_ | refine wkb ?_)) | refine kct rfl ?_)
          all_goals first | (exfalso; omega) | (exact Fin.q Try.results19 (.cons (.tmp rfl) (.cons (.tmp rfl) .nil)) [])
    · have e := fnd_out hn hl
      rw [e, fnd_no e]
      rw [hp, hn] at cP
      refine Cd.enter' Try.func19 rfl Try.ntmps19 rfl ?_
      repeat' (first | ((with_reducible refine kAL ?_); (first | refine A_box rfl rfl 29 _ rfl rfl (.push qL qN) ?_ | refine A_as rfl rfl rfl rfl ?_ | (refine kL 0 rfl ?_; (first | refine A_mt rfl rfl rfl rfl ?_ | refine A_move rfl rfl _ (.inl rfl) (y := .tup _) rfl ?_)) | (refine kL 1354 rfl ?_; refine A_cl rfl rfl Try.func42 rfl (cP) ?_) | (refine kL 18 rfl ?_; (first | refine A_extract rfl rfl _ 0 rfl rfl rfl ?_ | refine A_extract rfl rfl _ 1 rfl rfl rfl ?_ | refine A_extract rfl rfl _ 2 rfl rfl rfl ?_)) | refine A_not rfl rfl _ _ rfl rfl ?_ | refine A_field rfl rfl 29 _ 1 rfl ud29 rfl inf25 (by decide) 1 rfl rfl ?_ | refine A_load rfl rfl 25 _ rfl ud25 rfl rfl rfl rfl ?_ | refine A_len rfl rfl 25 _ rfl ud25 rfl ?_ | refine A_cmp (d := 22) rfl rfl (c := true) .geq 3 3 _ _ rfl rfl rfl (by exact congrArg some (decide_eq_true (by (try (dsimp only; fail_if_success done)); omega))) ?_ | (refine kL 19 rfl ?_; (first | refine A_pkt rfl rfl _ _ _ rfl rfl rfl ?_ | refine A_pkf rfl rfl _ _ _ rfl rfl rfl ?_)) | refine AL.nil ?_ | refine AL.skip rfl rfl ?_)) | with_reducible refine AW.at_region _ ?_ | (with_reducible (first | refine wk0 ?_ | refine wk2 ?_ | refine wk3 ?_ | refine wk9 ?_ | refine wkb ?_)) | refine kct rfl ?_)
      all_goals first | (exfalso; omega) | (exact Fin.q Try.results19 (.cons (.tmp rfl) (.cons (.tmp rfl) .nil)) [])
set_option maxHeartbeats 8000000 in
theorem hcopy_c (h : DHall) (hh : okHl h) : Cd Try.prog 24 [aHl h] (.agg [i64 h.ticket, .sl 0 0 h.chans.length, .t (.lst (h.waits.map tWt)), .sl 1 0 h.done.length]) [.row 0 66 5 (h.chans.map tCh), .row 0 50 4 (h.done.map tR)] := by
  have h1 : (h.chans.map tCh).length = h.chans.length := List.length_map _
  have hc0 := hh.c
  have hw0 := wcopy_c h.waits hh.w
  have hW : Cd Try.prog 50 [.ln (h.waits.map tWt)] (.t (.lst (h.waits.map tWt))) [] := by have hw0' := Cd.frz1 hw0 0 rfl (by repeat' (first | exact FzL.nil | apply FzL.cons | exact FzR.nlt | exact FzR.all (by first | rfl | (simp <;> fail) | (simp; omega)) | exact FzR.sl (by first | exact Nat.le_refl _ | (simp <;> fail) | (simp; omega)) | apply FzR.aggL | exact FzR.same _)) rfl; exact Cd.drop hw0' rfl
  refine Cd.enter' Try.func24 rfl Try.ntmps24 rfl ?_
  repeat' (first | ((with_reducible refine kAL ?_); (first | refine A_box rfl rfl 29 _ rfl rfl (.push qL qN) ?_ | refine A_alloc rfl rfl 29 rfl inf29 (cs := [.t (.v (.int .i64 0)), AV.nl, AV.nl, AV.nl]) rfl (.push qL qN) ?_ | refine A_field rfl rfl 29 _ 1 rfl ud29 rfl inf25 (by decide) 1 rfl rfl ?_ | refine A_load rfl rfl 25 _ rfl ud25 rfl rfl rfl rfl ?_ | refine A_len rfl rfl 25 _ rfl ud25 rfl ?_ | refine A_mt rfl rfl rfl rfl ?_ | refine AL.nil ?_)) | ((with_reducible refine kRG ?_); (first | (refine kR 932 rfl ?_; (first | refine R_field rfl rfl 29 _ 1 rfl ud29 rfl inf25 (by decide) 1 rfl rfl ?_ | refine R_field rfl rfl 29 _ 2 rfl ud29 rfl inf26 (by decide) 2 rfl rfl ?_ | refine R_field rfl rfl 29 _ 3 rfl ud29 rfl inf27 (by decide) 3 rfl rfl ?_)) | refine R_load rfl rfl 25 _ rfl ud25 rfl rfl rfl rfl ?_ | (refine kR 1578 rfl ?_; (refine R_cl rfl rfl Try.func49 rfl (clone_Ch h.chans hh.c) ?_; refine ⟨2, _, _, _, rfl, qU, qU, qZ, ?_⟩)) | refine R_load rfl rfl 26 _ rfl ud26 rfl rfl rfl rfl ?_ | (refine kR 1610 rfl ?_; (refine R_cl rfl rfl Try.func50 rfl (hW) ?_; refine ⟨0, _, _, _, rfl, qU, qU, qZ, ?_⟩)) | refine R_load rfl rfl 27 _ rfl ud27 rfl rfl rfl rfl ?_ | (refine kR 1642 rfl ?_; (refine R_cl rfl rfl Try.func51 rfl (clone_R h.done hh.d) ?_; refine ⟨3, _, _, _, rfl, qU, qU, qZ, ?_⟩)) | refine R_store rfl rfl 25 _ _ rfl inf25 rfl rfl rfl rfl (Nat.le_of_ble_eq_true rfl) qN qN ?_ | refine R_store rfl rfl 26 _ _ rfl inf26 rfl rfl rfl rfl (Nat.le_of_ble_eq_true rfl) qN qN ?_ | refine R_store rfl rfl 27 _ _ rfl inf27 rfl rfl rfl rfl (Nat.le_of_ble_eq_true rfl) qN qN ?_ | refine RG.nil ⟨by kernel_rfl, ?_⟩)) | (with_reducible (first | refine wk0 ?_ | refine wk1 ?_ | refine wk2 ?_)) | with_reducible refine AW.at_region _ ?_ | refine AW.at_draw 1 mixed 6 [[], [0], [0, 1], [], [3], [0, 1, 2, 3, 4], [], [6], [0, 1, 2, 3, 4, 5, 6, 7], [0, 1, 2, 3, 4, 6, 7], [0, 1, 2, 3, 4, 5, 6, 7, 8, 9], [0, 1, 2, 3, 4, 5, 6, 7, 8, 9, 10], [0, 1, 2, 3, 4, 5, 6, 7, 8, 9, 10, 11], [0, 1, 2, 3, 4, 5, 6, 7, 8, 9, 10, 11, 12], [0, 1, 2, 3, 4, 5, 6, 7, 8, 9, 10, 11, 12, 13]] qR ?_)
  all_goals first | (exfalso; omega) | skip
  refine AW.loopP (fun (q : Nat) => q ≤ h.chans.length) (fun (q : Nat) => (pu (pu (pu (pu (fun _ => .any) 1 (.ptr 0 0)) 2 (.ptr 1 0)) 18 (i64 h.chans.length)) 19 (i64 q))) (fun (q : Nat) => [.box 29 [i64 h.ticket, .sl 2 0 h.chans.length, .t (.lst (h.waits.map tWt)), .sl 3 0 h.done.length], .box 29 [i64 0, .nl, .nl, .nl], .row 0 66 5 (h.chans.map tCh), .row 0 50 4 (h.done.map tR)]) (fun (q : Nat) => h.chans.length - q) (0) ?_ ?_ ?_
  · exact Nat.zero_le _
  · exact Wk.cq 4
  · intro q hq
    by_cases hi : q < h.chans.length
    · obtain ⟨⟨g, cap, used, closed, buf⟩, hc⟩ : ∃ c, h.chans[q]? = some c := ⟨_, List.getElem?_eq_getElem hi⟩
      have hb := hh.b _ (List.mem_of_getElem? hc)
      have cC0 := ccopy_c ⟨g, cap, used, closed, buf⟩ (by dsimp only at hb ⊢; omega)
      dsimp only [aC] at cC0
      have cC : Cd Try.prog 52 [.agg [i64 g, i64 cap, bo used, bo closed, .ln (buf.map tI)]] (.agg [i64 g, i64 cap, bo used, bo closed, .t (.lst (buf.map tI))]) [] := by have cC0' := Cd.frz1 cC0 0 rfl (by repeat' (first | exact FzL.nil | apply FzL.cons | exact FzR.nlt | exact FzR.all (by first | rfl | (simp <;> fail) | (simp; omega)) | exact FzR.sl (by first | exact Nat.le_refl _ | (simp <;> fail) | (simp; omega)) | apply FzR.aggL | exact FzR.same _)) rfl; exact Cd.drop cC0' rfl
      have hs : h.chans.set q ⟨g, cap, used, closed, buf⟩ = h.chans := by
        obtain ⟨hq', e⟩ := List.getElem?_eq_some_iff.1 hc
        rw [← e]; exact List.set_getElem_self hq'
      repeat' (first | ((with_reducible refine kAL ?_); (first | refine A_mt rfl rfl rfl rfl ?_ | (refine kL 105 rfl ?_; (first | refine A_cmp (d := 20) rfl rfl (c := true) .lss 3 3 _ _ rfl rfl rfl (by exact congrArg some (decide_eq_true (by (try (dsimp only; fail_if_success done)); omega))) ?_ | refine A_add rfl rfl 3 3 _ _ rfl rfl rfl (by exact wi) ?_)) | refine A_as rfl rfl rfl rfl ?_ | refine AL.nil ?_)) | ((with_reducible refine kRG ?_); (first | refine R_field rfl rfl 29 _ 1 rfl ud29 rfl inf25 (by decide) 1 rfl rfl ?_ | refine R_load rfl rfl 25 _ rfl ud25 rfl rfl rfl rfl ?_ | refine R_mt rfl rfl rfl rfl ?_ | (refine kR 806 rfl ?_; refine R_idx_sl rfl rfl 25 _ _ rfl ud25 inf66 rfl rfl (by first | (simp <;> fail) | fail) rfl (by omega) _ (by with_reducible exact Int.toNat_natCast _) (by omega) ?_) | refine R_load_rp_agg rfl rfl 66 _ rfl ud66 rfl inf66 rfl rfl (by exact map_get (by assumption)) (us' := [_, _, _, _, _]) rfl rfl ?_ | (refine kR 1674 rfl ?_; (refine R_cl rfl rfl Try.func52 rfl (cC) ?_; refine ⟨0, _, _, _, rfl, qU, qU, qZ, ?_⟩)) | (refine kR 2115 rfl ?_; refine R_store_rp rfl rfl 66 _ _ rfl inf66 (by decide) rfl rfl (by exact map_get (by assumption)) rfl rfl rfl (Nat.le_of_ble_eq_true rfl) (by exact map_set (f := tCh) (x := ⟨g, cap, used, closed, buf⟩)) qN ?_) | refine RG.nil ⟨by kernel_rfl, ?_⟩)) | (with_reducible (first | refine wk0 ?_ | refine wk1 ?_ | refine wk2 ?_ | refine wk5 ?_ | refine wkd ?_)) | refine kct rfl ?_ | with_reducible refine AW.at_region _ ?_ | refine AW.at_draw 5 mixed 2 [[], [0], [], [], [3], [], [3, 4, 5], [3, 4, 5, 6], [3, 4, 5, 6, 7], [0, 1, 2, 3, 4, 5, 6, 7, 8], [0, 1, 2, 3, 4, 5, 6, 7, 8, 9]] qR ?_)
      all_goals first | (exfalso; omega) | skip
      rw [hs]
      refine ⟨q + 1, by omega, by omega, ?_⟩
      exact Wk.cq 4
    · repeat' (first | ((with_reducible refine kAL ?_); (first | refine A_cmp (d := 20) rfl rfl (c := false) .lss 3 3 _ _ rfl rfl rfl (by exact congrArg some (decide_eq_false (by (try (dsimp only; fail_if_success done)); omega))) ?_ | refine A_load_agg rfl rfl 29 _ rfl ud29 rfl inf29 rfl rfl (us' := [_, _, _, _]) rfl rfl ?_ | refine A_store rfl rfl 29 _ _ rfl inf29 rfl rfl rfl rfl (Nat.le_of_ble_eq_true rfl) qN qN ?_ | refine AL.nil ?_)) | (with_reducible (first | refine wk0 ?_ | refine wk2 ?_ | refine wk4 ?_ | refine wk7 ?_ | refine wk9 ?_ | refine wkb ?_ | refine wkc ?_)) | refine kcf rfl ?_ | with_reducible refine AW.at_region _ ?_)
      all_goals first | (exfalso; omega) | (exact Fin.q Try.results24 (.cons (.agg rfl rfl ud29 rfl inf29 (us := [_, _, _, _]) rfl rfl) .nil) [2, 3])
abbrev stB (c : DConf) (m k : Nat) (h : DHall) (t n : Int) : Ob := .box 70 [i64 h.ticket, .sl 1 0 m, .t (.lst (h.waits.map tWt)), .sl 2 0 k, i64 c.kind, i64 c.threads, i64 c.chans, i64 c.cap, i64 c.nodes, i64 c.retire, i64 c.patience, i64 c.tags, i64 c.seqs, i64 c.gens, .t (.lst (c.start.map tI)), i64 t, i64 n]
abbrev stH (c : DConf) (m k : Nat) (h : DHall) (t n : Int) : List Ob := [stB c m k h t n, .row 0 66 5 (h.chans.map tCh), .row 0 50 4 (h.done.map tR)]
set_option maxHeartbeats 8000000 in
theorem tell_c (c : DConf) (m k : Nat) (h : DHall) (t n : Int) (l : List DTold) (hk : h.done.length = k) (hl : l.length ≤ 1152921504606846976) (hk1 : k ≤ 4398046511104) :
    Cio Try.prog 97 [.ptr 0 0, .ln (l.map tTd)] (stH c m k h t n) (.tup []) (stH c m k ⟨h.ticket, h.chans, h.waits, tellL h.done l⟩ t n) := by
  have h1 : (l.map tTd).length = l.length := List.length_map _
  dsimp only [stH, stB]
  refine Cio.enter' Try.func97 rfl Try.ntmps97 rfl qM ?_
  repeat' (first | ((with_reducible refine kAL ?_); (first | (refine kL 0 rfl ?_; (first | refine A_mt rfl rfl rfl rfl ?_ | refine A_move rfl rfl _ (.inl rfl) (y := .ln _) rfl ?_)) | refine A_len rfl rfl 95 _ rfl ud95 rfl ?_ | refine AL.nil ?_)) | (with_reducible (first | refine wk0 ?_ | refine wk1 ?_ | refine wk2 ?_)) | with_reducible refine AW.at_region _ ?_)
  refine AW.loopP (fun (q : Nat) => q ≤ l.length) (fun (q : Nat) => (pu (pu (pu (pu (fun _ => .any) 0 (.ptr 0 0)) 6 (.ln (l.map tTd))) 7 (i64 (l.map tTd).length)) 8 (i64 q))) (fun (q : Nat) => [.box 70 [i64 h.ticket, .sl 1 0 m, .t (.lst (h.waits.map tWt)), .sl 2 0 k, i64 c.kind, i64 c.threads, i64 c.chans, i64 c.cap, i64 c.nodes, i64 c.retire, i64 c.patience, i64 c.tags, i64 c.seqs, i64 c.gens, .t (.lst (c.start.map tI)), i64 t, i64 n], .row 0 66 5 (h.chans.map tCh), .row 0 50 4 ((tellL h.done (l.take q)).map tR)]) (fun (q : Nat) => l.length - q) (0) ?_ ?_ ?_
  · exact Nat.zero_le _
  · exact Wk.cq 3
  · intro q hq
    have hD : (tellL h.done (l.take q)).length = k := by rw [tellL_len, hk]
    have hD2 : ((tellL h.done (l.take q)).map tR).length = k := by rw [List.length_map, hD]
    by_cases hi : q < l.length
    · obtain ⟨⟨th, ⟨ra, rb, rc, rd⟩⟩, hx⟩ : ∃ x, l[q]? = some x := ⟨_, List.getElem?_eq_getElem hi⟩
      have hs := tellL_next (d := h.done) hx
      dsimp only at hs
      by_cases ht : 0 ≤ th ∧ th < k
      · obtain ⟨j, rfl⟩ : ∃ j : Nat, th = j := ⟨th.toNat, by omega⟩
        rw [noteL_in (by omega)] at hs
        obtain ⟨y, hy⟩ : ∃ y, (tellL h.done (l.take q))[j]? = some y := ⟨_, List.getElem?_eq_getElem (by omega)⟩
        generalize tellL h.done (l.take q) = D at *
        repeat' (first | ((with_reducible refine kAL ?_); (first | refine A_mt rfl rfl rfl rfl ?_ | (refine kL 105 rfl ?_; (first | refine A_cmp (d := 9) rfl rfl (c := true) .lss 3 3 _ _ rfl rfl rfl (by exact congrArg some (decide_eq_true (by (try (dsimp only; fail_if_success done)); omega))) ?_ | refine A_add rfl rfl 3 3 _ _ rfl rfl rfl (by exact wi) ?_)) | (refine kL 3046 rfl ?_; refine A_idx rfl rfl 95 _ _ rfl ud95 inf124 (by decide) (by exact .inl rfl) rfl (by omega) _ (by with_reducible exact Int.toNat_natCast _) (by exact map_get (by assumption)) rfl (cs' := [_, _, _, _, _]) rfl ?_) | refine A_load_lp_agg rfl rfl 124 _ rfl ud124 rfl inf124 rfl (us' := [_, _, _, _, _]) rfl rfl ?_ | refine A_alloc rfl rfl 124 rfl inf124 (cs := [.t (.v (.int .i64 0)), .t (.v (.int .i64 0)), .t (.v (.int .i64 0)), .t (.v (.int .i64 0)), .t (.v (.int .i64 0))]) rfl (.push qL qN) ?_ | refine A_store rfl rfl 124 _ _ rfl inf124 rfl rfl rfl rfl (Nat.le_of_ble_eq_true rfl) qN qN ?_ | refine AL.nil ?_)) | ((with_reducible refine kRG ?_); (first | (refine kR 3972 rfl ?_; (first | refine R_field rfl rfl 124 _ 0 rfl ud124 rfl inf3 (by decide) 0 rfl rfl ?_ | refine R_field rfl rfl 124 _ 1 rfl ud124 rfl inf50 (by decide) 1 rfl rfl ?_)) | refine R_load rfl rfl 3 _ rfl ud3 rfl rfl rfl rfl ?_ | (refine kR 105 rfl ?_; (first | refine R_cmp (d := 14) rfl rfl (c := true) .geq 3 3 _ _ rfl rfl rfl (by exact congrArg some (decide_eq_true (by (try (dsimp only; fail_if_success done)); omega))) ?_ | refine R_cmp (d := 24) rfl rfl (c := true) .lss 3 3 _ _ rfl rfl rfl (by exact congrArg some (decide_eq_true (by (try (dsimp only; fail_if_success done)); omega))) ?_)) | (refine kR 0 rfl ?_; (first | refine R_mt rfl rfl rfl rfl ?_ | refine R_move rfl rfl _ (.inl rfl) (y := .ptr _ _) rfl ?_)) | (refine kR 31 rfl ?_; refine R_nilc rfl rfl _ rfl rfl rfl ?_) | refine R_field rfl rfl 70 _ 0 rfl ud70 rfl inf29 (by decide) 0 rfl rfl ?_ | refine R_field rfl rfl 29 _ 3 rfl ud29 rfl inf27 (by decide) 3 rfl rfl ?_ | refine R_load rfl rfl 27 _ rfl ud27 rfl rfl rfl rfl ?_ | refine R_len rfl rfl 27 _ rfl ud27 rfl ?_ | (refine kR 19 rfl ?_; refine R_pkt rfl rfl _ _ _ rfl rfl rfl ?_) | refine R_load_agg rfl rfl 50 _ rfl ud50 rfl inf50 rfl rfl (us' := [_, _, _, _]) rfl rfl ?_ | (refine kR 870 rfl ?_; refine R_idx_sl rfl rfl 27 _ _ rfl ud27 inf50 rfl rfl (by (simp; omega)) rfl (by omega) _ (by with_reducible exact Int.toNat_natCast _) (by omega) ?_) | (refine kR 1603 rfl ?_; refine R_store_rp rfl rfl 50 _ _ rfl inf50 (by decide) rfl rfl (by exact map_get (by assumption)) rfl rfl rfl (Nat.le_of_ble_eq_true rfl) (by exact map_set (f := tR) (x := ⟨ra, rb, rc, rd⟩)) qN ?_) | refine RG.nil ⟨by kernel_rfl, ?_⟩)) | (with_reducible (first | refine wk0 ?_ | refine wk1 ?_ | refine wk2 ?_ | refine wk5 ?_ | refine wkd ?_)) | refine kct rfl ?_ | with_reducible refine AW.at_region _ ?_ | refine AW.at_draw 3 mixed 0 [[], [0], [0, 1], [0, 1, 2], [0, 1, 2, 3], [0, 1, 2, 3, 4], [0, 1, 2, 3], [0, 1, 2, 3, 6], [0, 1, 2, 3, 6, 7], [0, 1, 2, 3, 6, 7, 8], [0, 1, 2, 3, 6, 7, 8, 9], [0, 1, 2, 3, 6, 7, 8, 9, 10], [0, 1, 2, 3, 4, 5, 6, 7, 8, 9, 10, 11], [0, 1, 2, 3, 4, 5, 6, 7, 8, 9, 10, 11, 12]] qR ?_ | refine AW.at_draw 4 mixed 0 [[], [0], [0, 1], [0, 1, 2], [0, 1, 2, 3], [], [5], [], [7], [0, 1, 2, 3, 4, 5, 6, 7, 8], [0, 1, 2, 3, 4, 5, 6, 7, 8, 9]] qR ?_)
        all_goals first | (exfalso; omega) | skip
        refine ⟨q + 1, by omega, by omega, ?_⟩
        rw [hs]
        exact Wk.cq 3
      · rw [noteL_out (by omega)] at hs
        generalize tellL h.done (l.take q) = D at *
        by_cases h0 : 0 ≤ th
        all_goals
          repeat' (first | ((with_reducible refine kAL ?_); (first | refine A_mt rfl rfl rfl rfl ?_ | (refine kL 105 rfl ?_; (first | refine A_cmp (d := 9) rfl rfl (c := true) .lss 3 3 _ _ rfl rfl rfl (by exact congrArg some (decide_eq_true (by (try (dsimp only; fail_if_success done)); omega))) ?_ | refine A_add rfl rfl 3 3 _ _ rfl rfl rfl (by exact wi) ?_)) | (refine kL 3046 rfl ?_; refine A_idx rfl rfl 95 _ _ rfl ud95 inf124 (by decide) (by exact .inl rfl) rfl (by omega) _ (by with_reducible exact Int.toNat_natCast _) (by exact map_get (by assumption)) rfl (cs' := [_, _, _, _, _]) rfl ?_) | refine A_load_lp_agg rfl rfl 124 _ rfl ud124 rfl inf124 rfl (us' := [_, _, _, _, _]) rfl rfl ?_ | refine A_alloc rfl rfl 124 rfl inf124 (cs := [.t (.v (.int .i64 0)), .t (.v (.int .i64 0)), .t (.v (.int .i64 0)), .t (.v (.int .i64 0)), .t (.v (.int .i64 0))]) rfl (.push qL qN) ?_ | refine A_store rfl rfl 124 _ _ rfl inf124 rfl rfl rfl rfl (Nat.le_of_ble_eq_true rfl) qN qN ?_ | refine AL.nil ?_)) | ((with_reducible refine kRG ?_); (first | refine R_field rfl rfl 124 _ 0 rfl ud124 rfl inf3 (by decide) 0 rfl rfl ?_ | refine R_load rfl rfl 3 _ rfl ud3 rfl rfl rfl rfl ?_ | (refine kR 105 rfl ?_; (first | refine R_cmp (d := 14) rfl rfl (c := true) .geq 3 3 _ _ rfl rfl rfl (by exact congrArg some (decide_eq_true (by (try (dsimp only; fail_if_success done)); omega))) ?_ | refine R_cmp (d := 14) rfl rfl (c := false) .geq 3 3 _ _ rfl rfl rfl (by exact congrArg some (decide_eq_false (by (try (dsimp only; fail_if_success done)); omega))) ?_ | refine R_cmp (d := 24) rfl rfl (c := false) .lss 3 3 _ _ rfl rfl rfl (by exact congrArg some (decide_eq_false (by (try (dsimp only; fail_if_success done)); omega))) ?_)) | (refine kR 0 rfl ?_; (first | refine R_mt rfl rfl rfl rfl ?_ | refine R_move rfl rfl _ (.inl rfl) (y := .ptr _ _) rfl ?_)) | (refine kR 31 rfl ?_; refine R_nilc rfl rfl _ rfl rfl rfl ?_) | refine R_field rfl rfl 70 _ 0 rfl ud70 rfl inf29 (by decide) 0 rfl rfl ?_ | refine R_field rfl rfl 29 _ 3 rfl ud29 rfl inf27 (by decide) 3 rfl rfl ?_ | refine R_load rfl rfl 27 _ rfl ud27 rfl rfl rfl rfl ?_ | refine R_len rfl rfl 27 _ rfl ud27 rfl ?_ | (refine kR 19 rfl ?_; (first | refine R_pkt rfl rfl _ _ _ rfl rfl rfl ?_ | refine R_pkf rfl rfl _ _ _ rfl rfl rfl ?_)) | refine RG.nil ⟨by kernel_rfl, ?_⟩ | refine R_skip rfl rfl ?_)) | (with_reducible (first | refine wk0 ?_ | refine wk1 ?_ | refine wk2 ?_ | refine wk5 ?_ | refine wkd ?_)) | refine kct rfl ?_ | refine kcf rfl ?_ | with_reducible refine AW.at_region _ ?_ | refine AW.at_draw 3 mixed 0 [[], [0], [0, 1], [0, 1, 2], [0, 1, 2, 3], [0, 1, 2, 3, 4], [0, 1, 2, 3], [0, 1, 2, 3, 6], [0, 1, 2, 3, 6, 7], [0, 1, 2, 3, 6, 7, 8], [0, 1, 2, 3, 6, 7, 8, 9], [0, 1, 2, 3, 6, 7, 8, 9, 10], [0, 1, 2, 3, 4, 5, 6, 7, 8, 9, 10, 11], [0, 1, 2, 3, 4, 5, 6, 7, 8, 9, 10, 11, 12]] qR ?_)
          all_goals first | (exfalso; omega) | skip
          refine ⟨q + 1, by omega, by omega, ?_⟩
          rw [hs]
          exact Wk.cq 3
    · have e : q = l.length := by omega
      subst e
      rw [List.take_length] at *
      repeat' (first | ((with_reducible refine kAL ?_); (first | refine A_cmp (d := 9) rfl rfl (c := false) .lss 3 3 _ _ rfl rfl rfl (by exact congrArg some (decide_eq_false (by (try (dsimp only; fail_if_success done)); omega))) ?_ | refine AL.nil ?_)) | (with_reducible (first | refine wk0 ?_ | refine wk2 ?_ | refine wk4 ?_ | refine wk7 ?_ | refine wka ?_ | refine wkc ?_)) | refine kcf rfl ?_ | with_reducible refine AW.at_region _ ?_)
      all_goals first | (exfalso; omega) | (exact Fin.q Try.results97 .nil [])
theorem handle_c (p g : Int) : Cd Try.prog 43 [i64 p, i64 g] (i64 (hdl p g)) [] := by
  unfold hdl
  by_cases h1 : 0 ≤ p ∧ p ≤ 7 ∧ 1 ≤ g ∧ g ≤ 4095
  · rw [if_pos h1]
    refine Cd.enter' Try.func43 rfl Try.ntmps43 rfl ?_
    repeat' (first | ((with_reducible refine kAL ?_); (first | refine A_as rfl rfl rfl rfl ?_ | refine A_mt rfl rfl rfl rfl ?_ | (refine kL 105 rfl ?_; (first | refine A_cmp (d := 6) rfl rfl (c := false) .lss 3 3 _ _ rfl rfl rfl (by exact congrArg some (decide_eq_false (by (try (dsimp only; fail_if_success done)); omega))) ?_ | refine A_cmp (d := 9) rfl rfl (c := false) .geq 3 3 _ _ rfl rfl rfl (by exact congrArg some (decide_eq_false (by (try (dsimp only; fail_if_success done)); omega))) ?_ | refine A_cmp (d := 13) rfl rfl (c := false) .lss 3 3 _ _ rfl rfl rfl (by exact congrArg some (decide_eq_false (by (try (dsimp only; fail_if_success done)); omega))) ?_ | refine A_cmp (d := 17) rfl rfl (c := false) .gtr 3 3 _ _ rfl rfl rfl (by exact congrArg some (decide_eq_false (by (try (dsimp only; fail_if_success done)); omega))) ?_ | refine A_mul rfl rfl 3 3 _ _ rfl rfl rfl (by first | exact wi | rfl) ?_ | refine A_add rfl rfl 3 3 _ _ rfl rfl rfl (by exact wi) ?_)) | (refine kL 19 rfl ?_; refine A_pkf rfl rfl _ _ _ rfl rfl rfl ?_) | refine AL.nil ?_)) | with_reducible refine AW.at_region _ ?_ | (with_reducible (first | refine wk0 ?_ | refine wk2 ?_ | refine wk9 ?_ | refine wkb ?_ | refine wkd ?_)) | refine kcf rfl ?_)
    all_goals first | (exfalso; omega) | (exact Fin.q Try.results43 (.cons (.tmp rfl) .nil) [])
  · rw [if_neg h1]
    by_cases p1 : p < 0
    · refine Cd.enter' Try.func43 rfl Try.ntmps43 rfl ?_
      repeat' (first | ((with_reducible refine kAL ?_); (first | refine A_as rfl rfl rfl rfl ?_ | refine A_mt rfl rfl rfl rfl ?_ | refine A_cmp (d := 6) rfl rfl (c := true) .lss 3 3 _ _ rfl rfl rfl (by exact congrArg some (decide_eq_true (by (try (dsimp only; fail_if_success done)); omega))) ?_ | (refine kL 19 rfl ?_; refine A_pkt rfl rfl _ _ _ rfl rfl rfl ?_) | refine AL.nil ?_ | refine AL.skip rfl rfl ?_)) | with_reducible refine AW.at_region _ ?_ | (with_reducible (first | refine wk0 ?_ | refine wk2 ?_ | refine wk3 ?_ | refine wk9 ?_ | refine wkb ?_)) | refine kct rfl ?_)
      all_goals first | (exfalso; omega) | (exact Fin.q Try.results43 (.cons (.tmp rfl) .nil) [])
    · by_cases p2 : 7 < p
      · refine Cd.enter' Try.func43 rfl Try.ntmps43 rfl ?_
        repeat' (first | ((with_reducible refine kAL ?_); (first | refine A_as rfl rfl rfl rfl ?_ | refine A_mt rfl rfl rfl rfl ?_ | (refine kL 105 rfl ?_; (first | refine A_cmp (d := 6) rfl rfl (c := false) .lss 3 3 _ _ rfl rfl rfl (by exact congrArg some (decide_eq_false (by (try (dsimp only; fail_if_success done)); omega))) ?_ | refine A_cmp (d := 9) rfl rfl (c := true) .geq 3 3 _ _ rfl rfl rfl (by exact congrArg some (decide_eq_true (by (try (dsimp only; fail_if_success done)); omega))) ?_)) | (refine kL 19 rfl ?_; (first | refine A_pkt rfl rfl _ _ _ rfl rfl rfl ?_ | refine A_pkf rfl rfl _ _ _ rfl rfl rfl ?_)) | refine AL.nil ?_ | refine AL.skip rfl rfl ?_)) | with_reducible refine AW.at_region _ ?_ | (with_reducible (first | refine wk0 ?_ | refine wk2 ?_ | refine wk3 ?_ | refine wk9 ?_ | refine wkb ?_)) | refine kct rfl ?_)
        all_goals first | (exfalso; omega) | (exact Fin.q Try.results43 (.cons (.tmp rfl) .nil) [])
      · by_cases p3 : g < 1
        · refine Cd.enter' Try.func43 rfl Try.ntmps43 rfl ?_
          repeat' (first | ((with_reducible refine kAL ?_); (first | refine A_as rfl rfl rfl rfl ?_ | refine A_mt rfl rfl rfl rfl ?_ | (refine kL 105 rfl ?_; (first | refine A_cmp (d := 6) rfl rfl (c := false) .lss 3 3 _ _ rfl rfl rfl (by exact congrArg some (decide_eq_false (by (try (dsimp only; fail_if_success done)); omega))) ?_ | refine A_cmp (d := 9) rfl rfl (c := false) .geq 3 3 _ _ rfl rfl rfl (by exact congrArg some (decide_eq_false (by (try (dsimp only; fail_if_success done)); omega))) ?_ | refine A_cmp (d := 13) rfl rfl (c := true) .lss 3 3 _ _ rfl rfl rfl (by exact congrArg some (decide_eq_true (by (try (dsimp only; fail_if_success done)); omega))) ?_)) | (refine kL 19 rfl ?_; (first | refine A_pkt rfl rfl _ _ _ rfl rfl rfl ?_ | refine A_pkf rfl rfl _ _ _ rfl rfl rfl ?_)) | refine AL.nil ?_ | refine AL.skip rfl rfl ?_)) | with_reducible refine AW.at_region _ ?_ | (with_reducible (first | refine wk0 ?_ | refine wk2 ?_ | refine wk3 ?_ | refine wk9 ?_ | refine wkb ?_)) | refine kct rfl ?_)
          all_goals first | (exfalso; omega) | (exact Fin.q Try.results43 (.cons (.tmp rfl) .nil) [])
        · refine Cd.enter' Try.func43 rfl Try.ntmps43 rfl ?_
          repeat' (first | ((with_reducible refine kAL ?_); (first | refine A_as rfl rfl rfl rfl ?_ | refine A_mt rfl rfl rfl rfl ?_ | (refine kL 105 rfl ?_; (first | refine A_cmp (d := 6) rfl rfl (c := false) .lss 3 3 _ _ rfl rfl rfl (by exact congrArg some (decide_eq_false (by (try (dsimp only; fail_if_success done)); omega))) ?_ | refine A_cmp (d := 9) rfl rfl (c := false) .geq 3 3 _ _ rfl rfl rfl (by exact congrArg some (decide_eq_false (by (try (dsimp only; fail_if_success done)); omega))) ?_ | refine A_cmp (d := 13) rfl rfl (c := false) .lss 3 3 _ _ rfl rfl rfl (by exact congrArg some (decide_eq_false (by (try (dsimp only; fail_if_success done)); omega))) ?_ | refine A_cmp (d := 17) rfl rfl (c := true) .gtr 3 3 _ _ rfl rfl rfl (by exact congrArg some (decide_eq_true (by (try (dsimp only; fail_if_success done)); omega))) ?_)) | (refine kL 19 rfl ?_; refine A_pkf rfl rfl _ _ _ rfl rfl rfl ?_) | refine AL.nil ?_)) | with_reducible refine AW.at_region _ ?_ | (with_reducible (first | refine wk0 ?_ | refine wk2 ?_ | refine wk3 ?_ | refine wk9 ?_ | refine wkb ?_)) | refine kct rfl ?_)
          all_goals first | (exfalso; omega) | (exact Fin.q Try.results43 (.cons (.tmp rfl) .nil) [])
set_option maxHeartbeats 16000000 in
theorem open_c (c : DConf) (m k : Nat) (h : DHall) (t n cap : Int) (hm : h.chans.length = m) (hm1 : m ≤ 2932031007402) (hg : ∀ x ∈ h.chans, sI x.gen) :
    Cio Try.prog 61 [.ptr 0 0, i64 cap] (stH c m k h t n) (aR (openH c h cap).2) (stH c m k (openH c h cap).1 t n) := by
  have h1 : (h.chans.map tCh).length = m := by rw [List.length_map, hm]
  unfold openH
  by_cases hcap : cap < 0 ∨ c.cap < cap
  · rw [if_pos hcap]
    dsimp only [stH, stB, aR]
    by_cases h0 : cap < 0
    all_goals
      refine Cio.enter' Try.func61 rfl Try.ntmps61 rfl qM ?_
      repeat' (first | ((with_reducible refine kAL ?_); (first | refine A_alloc rfl rfl 50 rfl inf50 (cs := [.t (.v (.int .i64 0)), .t (.v (.int .i64 0)), .t (.v (.int .i64 0)), .t (.v (.int .i64 0))]) rfl (.push qL qN) ?_ | (refine kL 0 rfl ?_; (first | refine A_mt rfl rfl rfl rfl ?_ | refine A_move rfl rfl _ (.inl rfl) (y := .ptr _ _) rfl ?_)) | (refine kL 105 rfl ?_; (first | refine A_cmp (d := 9) rfl rfl (c := true) .lss 3 3 _ _ rfl rfl rfl (by exact congrArg some (decide_eq_true (by (try (dsimp only; fail_if_success done)); omega))) ?_ | refine A_cmp (d := 9) rfl rfl (c := false) .lss 3 3 _ _ rfl rfl rfl (by exact congrArg some (decide_eq_false (by (try (dsimp only; fail_if_success done)); omega))) ?_ | refine A_cmp (d := 17) rfl rfl (c := true) .gtr 3 3 _ _ rfl rfl rfl (by exact congrArg some (decide_eq_true (by (try (dsimp only; fail_if_success done)); omega))) ?_)) | (refine kL 31 rfl ?_; refine A_nilc rfl rfl _ rfl rfl rfl ?_) | refine A_field rfl rfl 70 _ 1 rfl ud70 rfl inf24 (by decide) 4 rfl rfl ?_ | refine A_field rfl rfl 24 _ 3 rfl ud24 rfl inf3 (by decide) 3 rfl rfl ?_ | refine A_load rfl rfl 3 _ rfl ud3 rfl rfl rfl rfl ?_ | (refine kL 19 rfl ?_; (first | refine A_pkt rfl rfl _ _ _ rfl rfl rfl ?_ | refine A_pkf rfl rfl _ _ _ rfl rfl rfl ?_)) | (refine kL 1614 rfl ?_; refine A_build rfl rfl 50 _ rfl ud50 inf50 [(0, 1), (1, 1), (2, 1), (3, 1)] (by kernel_rfl) (zs := [.t (.v (.int .i64 0)), .t (.v (.int .i64 0)), .t (.v (.int .i64 0)), .t (.v (.int .i64 0))]) rfl (.cons rfl .nil) (cs := [_, _, _, _]) rfl ?_) | refine A_store rfl rfl 50 _ _ rfl inf50 rfl rfl rfl rfl (Nat.le_of_ble_eq_true rfl) qN qN ?_ | refine AL.nil ?_ | refine AL.skip rfl rfl ?_)) | (with_reducible (first | refine wk0 ?_ | refine wk2 ?_ | refine wk3 ?_ | refine wk9 ?_ | refine wkb ?_)) | refine kct rfl ?_ | with_reducible refine AW.at_region _ ?_)
      all_goals first | (exfalso; omega) | (exact Fin.q Try.results61 (.cons (.agg rfl rfl ud50 rfl inf50 (us := [_, _, _, _]) rfl rfl) .nil) [])
  · rw [if_neg hcap]
    generalize hR : (if 0 ≤ ixF (okO c) h.chans then (cH h (h.chans.set (ixF (okO c) h.chans).toNat ⟨(chA h (ixF (okO c) h.chans)).gen + 1, cap, true, false, []⟩), (⟨0, 0, 0, hdl (ixF (okO c) h.chans) ((chA h (ixF (okO c) h.chans)).gen + 1)⟩ : Rst)) else (h, ⟨0, 0, if h.chans.any (fun x => !x.used) then 7 else 6, 0⟩)) = R
    dsimp only [stH, stB]
    refine Cio.enter' Try.func61 rfl Try.ntmps61 rfl qM ?_
    repeat' (first | ((with_reducible refine kAL ?_); (first | refine A_alloc rfl rfl 50 rfl inf50 (cs := [.t (.v (.int .i64 0)), .t (.v (.int .i64 0)), .t (.v (.int .i64 0)), .t (.v (.int .i64 0))]) rfl (.push qL qN) ?_ | (refine kL 0 rfl ?_; (first | refine A_mt rfl rfl rfl rfl ?_ | refine A_move rfl rfl _ (.inl rfl) (y := .ptr _ _) rfl ?_)) | (refine kL 105 rfl ?_; (first | refine A_cmp (d := 9) rfl rfl (c := false) .lss 3 3 _ _ rfl rfl rfl (by exact congrArg some (decide_eq_false (by (try (dsimp only; fail_if_success done)); omega))) ?_ | refine A_cmp (d := 17) rfl rfl (c := false) .gtr 3 3 _ _ rfl rfl rfl (by exact congrArg some (decide_eq_false (by (try (dsimp only; fail_if_success done)); omega))) ?_)) | (refine kL 31 rfl ?_; refine A_nilc rfl rfl _ rfl rfl rfl ?_) | (refine kL 2244 rfl ?_; (first | refine A_field rfl rfl 70 _ 1 rfl ud70 rfl inf24 (by decide) 4 rfl rfl ?_ | refine A_field rfl rfl 70 _ 0 rfl ud70 rfl inf29 (by decide) 0 rfl rfl ?_)) | refine A_field rfl rfl 24 _ 3 rfl ud24 rfl inf3 (by decide) 3 rfl rfl ?_ | refine A_load rfl rfl 3 _ rfl ud3 rfl rfl rfl rfl ?_ | (refine kL 19 rfl ?_; refine A_pkf rfl rfl _ _ _ rfl rfl rfl ?_) | refine A_as rfl rfl rfl rfl ?_ | refine A_field rfl rfl 29 _ 1 rfl ud29 rfl inf25 (by decide) 1 rfl rfl ?_ | refine A_load rfl rfl 25 _ rfl ud25 rfl rfl rfl rfl ?_ | refine A_len rfl rfl 25 _ rfl ud25 rfl ?_ | refine AL.nil ?_)) | (with_reducible (first | refine wk0 ?_ | refine wk1 ?_ | refine wk2 ?_ | refine wkd ?_)) | refine kcf rfl ?_ | with_reducible refine AW.at_region _ ?_)
    all_goals first | (exfalso; omega) | skip
    refine AW.loopP (fun (q : Nat) => q ≤ m ∧ ∀ j, j < q → ∀ b, h.chans[j]? = some b → okO c b = false) (fun (q : Nat) => (pu (pu (pu (pu (pu (pu (pu (fun _ => .any) 0 (.ptr 0 0)) 1 (i64 cap)) 4 (.ptr 3 0)) 5 (bo ((h.chans.take q).any fun x => !x.used))) 24 (.sl 1 0 m)) 25 (i64 m)) 26 (i64 q))) (fun (q : Nat) => [.box 70 [i64 h.ticket, .sl 1 0 m, .t (.lst (h.waits.map tWt)), .sl 2 0 k, i64 c.kind, i64 c.threads, i64 c.chans, i64 c.cap, i64 c.nodes, i64 c.retire, i64 c.patience, i64 c.tags, i64 c.seqs, i64 c.gens, .t (.lst (c.start.map tI)), i64 t, i64 n], .row 0 66 5 (h.chans.map tCh), .row 0 50 4 (h.done.map tR), .box 50 [i64 0, i64 0, i64 0, i64 0]]) (fun (q : Nat) => m - q) (0) ?_ ?_ ?_
    · exact ⟨Nat.zero_le _, fun j hj => by omega⟩
    · exact Wk.cq 4
    · rintro q ⟨hq, hno⟩
      by_cases hi : q < m
      · obtain ⟨⟨g, cp, used, closed, buf⟩, hc⟩ : ∃ x, h.chans[q]? = some x := ⟨_, List.getElem?_eq_getElem (by omega)⟩
        have hgb := hg _ (List.mem_of_getElem? hc)
        unfold sI at hgb
        dsimp only at hgb
        have hany : ((h.chans.take (q + 1)).any fun x => !x.used) = (((h.chans.take q).any fun x => !x.used) || !used) := by rw [List.take_add_one, hc, List.any_append]; simp
        cases ho : okO c ⟨g, cp, used, closed, buf⟩
        · have hno' : ∀ j, j < q + 1 → ∀ b, h.chans[j]? = some b → okO c b = false := fun j hj b hb => by
            by_cases ej : j = q
            · subst ej; rw [hc] at hb; cases hb; exact ho
            · exact hno j (by omega) b hb
          cases used
          · have hge : ¬ g < min c.gens 4095 := by unfold okO at ho; simpa using ho
            generalize ((h.chans.take q).any fun x => !x.used) = sp at hany
            repeat' (first | ((with_reducible refine kAL ?_); (first | refine A_mt rfl rfl rfl rfl ?_ | (refine kL 105 rfl ?_; (first | refine A_cmp (d := 27) rfl rfl (c := true) .lss 3 3 _ _ rfl rfl rfl (by exact congrArg some (decide_eq_true (by (try (dsimp only; fail_if_success done)); omega))) ?_ | refine A_add rfl rfl 3 3 _ _ rfl rfl rfl (by exact wi) ?_)) | refine A_as rfl rfl rfl rfl ?_ | (refine kL 806 rfl ?_; refine A_idx_sl rfl rfl 25 _ _ rfl ud25 inf66 rfl rfl (by (simp; omega)) rfl (by omega) _ (by with_reducible exact Int.toNat_natCast _) (by omega) ?_) | refine A_load_rp_agg rfl rfl 66 _ rfl ud66 rfl inf66 rfl rfl (by exact map_get (by assumption)) (us' := [_, _, _, _, _]) rfl rfl ?_ | refine A_alloc rfl rfl 66 rfl inf66 (cs := [.t (.v (.int .i64 0)), .t (.v (.int .i64 0)), .t (.v (.bool false)), .t (.v (.bool false)), AV.nl]) rfl (.push qL qN) ?_ | refine A_store rfl rfl 66 _ _ rfl inf66 rfl rfl rfl rfl (Nat.le_of_ble_eq_true rfl) qN qN ?_ | refine A_field rfl rfl 66 _ 2 rfl ud66 rfl inf4 (by decide) 2 rfl rfl ?_ | refine A_load rfl rfl 4 _ rfl ud4 rfl rfl rfl rfl ?_ | refine AL.nil ?_)) | ((with_reducible refine kRG ?_); (first | refine R_field rfl rfl 66 _ 0 rfl ud66 rfl inf3 (by decide) 0 rfl rfl ?_ | refine R_load rfl rfl 3 _ rfl ud3 rfl rfl rfl rfl ?_ | refine R_move rfl rfl _ (.inl rfl) (y := .ptr _ _) rfl ?_ | (refine kR 31 rfl ?_; refine R_nilc rfl rfl _ rfl rfl rfl ?_) | refine R_field rfl rfl 70 _ 1 rfl ud70 rfl inf24 (by decide) 4 rfl rfl ?_ | refine R_field rfl rfl 24 _ 9 rfl ud24 rfl inf3 (by decide) 9 rfl rfl ?_ | (refine kR 12 rfl ?_; refine R_min rfl rfl _ _ _ rfl rfl rfl ?_) | refine R_cmp (d := 41) rfl rfl (c := true) .geq 3 3 _ _ rfl rfl rfl (by exact congrArg some (decide_eq_true (by (try (dsimp only; fail_if_success done)); omega))) ?_ | refine RG.nil ⟨by kernel_rfl, ?_⟩)) | (with_reducible (first | refine wk0 ?_ | refine wk1 ?_ | refine wk2 ?_ | refine wk4 ?_ | refine wk7 ?_ | refine wkc ?_ | refine wkd ?_)) | refine kct rfl ?_ | refine kcf rfl ?_ | with_reducible refine AW.at_region _ ?_ | refine AW.at_draw 8 mixed 0 [[], [0], [], [2], [2, 3], [2, 3, 4], [2, 3, 4, 5], [2, 3, 4, 5, 6], [0, 1, 2, 3, 4, 5, 6, 7]] qR ?_)
            all_goals first | (exfalso; omega) | skip
            refine ⟨q + 1, ⟨by omega, hno'⟩, by omega, ?_⟩
            rw [hany]
            simp only [Bool.not_false, Bool.or_true]
            exact Wk.cq 4
          · generalize ((h.chans.take q).any fun x => !x.used) = sp at hany
            repeat' (first | ((with_reducible refine kAL ?_); (first | refine A_mt rfl rfl rfl rfl ?_ | (refine kL 105 rfl ?_; (first | refine A_cmp (d := 27) rfl rfl (c := true) .lss 3 3 _ _ rfl rfl rfl (by exact congrArg some (decide_eq_true (by (try (dsimp only; fail_if_success done)); omega))) ?_ | refine A_add rfl rfl 3 3 _ _ rfl rfl rfl (by exact wi) ?_)) | refine A_as rfl rfl rfl rfl ?_ | (refine kL 806 rfl ?_; refine A_idx_sl rfl rfl 25 _ _ rfl ud25 inf66 rfl rfl (by (simp; omega)) rfl (by omega) _ (by with_reducible exact Int.toNat_natCast _) (by omega) ?_) | refine A_load_rp_agg rfl rfl 66 _ rfl ud66 rfl inf66 rfl rfl (by exact map_get (by assumption)) (us' := [_, _, _, _, _]) rfl rfl ?_ | refine A_alloc rfl rfl 66 rfl inf66 (cs := [.t (.v (.int .i64 0)), .t (.v (.int .i64 0)), .t (.v (.bool false)), .t (.v (.bool false)), AV.nl]) rfl (.push qL qN) ?_ | refine A_store rfl rfl 66 _ _ rfl inf66 rfl rfl rfl rfl (Nat.le_of_ble_eq_true rfl) qN qN ?_ | refine A_field rfl rfl 66 _ 2 rfl ud66 rfl inf4 (by decide) 2 rfl rfl ?_ | refine A_load rfl rfl 4 _ rfl ud4 rfl rfl rfl rfl ?_ | refine AL.nil ?_)) | (with_reducible (first | refine wk0 ?_ | refine wk1 ?_ | refine wk2 ?_ | refine wk4 ?_ | refine wk7 ?_ | refine wkc ?_ | refine wkd ?_)) | refine kct rfl ?_ | with_reducible refine AW.at_region _ ?_)
            all_goals first | (exfalso; omega) | skip
            refine ⟨q + 1, ⟨by omega, hno'⟩, by omega, ?_⟩
            rw [hany]
            simp only [Bool.not_true, Bool.or_false]
            exact Wk.cq 4
        · have hix := ixF_at (okO c) h.chans q _ hno hc ho
          have hch : chA h (q : Int) = ⟨g, cp, used, closed, buf⟩ := by unfold chA; rw [Int.toNat_natCast, getD_of hc]
          rw [hix, if_pos (by omega), hch, Int.toNat_natCast] at hR
          have hlt : used = false ∧ g < min c.gens 4095 := by unfold okO at ho; simpa using ho
          obtain ⟨rfl, hge⟩ := hlt
          subst hR
          dsimp only [cH]
          have cH := handle_c q (g + 1)
          repeat' (first | ((with_reducible refine kAL ?_); (first | refine A_mt rfl rfl rfl rfl ?_ | (refine kL 105 rfl ?_; (first | refine A_cmp (d := 27) rfl rfl (c := true) .lss 3 3 _ _ rfl rfl rfl (by exact congrArg some (decide_eq_true (by (try (dsimp only; fail_if_success done)); omega))) ?_ | refine A_add rfl rfl 3 3 _ _ rfl rfl rfl (by exact wi) ?_)) | refine A_load rfl rfl 3 _ rfl ud3 rfl rfl rfl rfl ?_ | (refine kL 1614 rfl ?_; refine A_build rfl rfl 50 _ rfl ud50 inf50 [(0, 1), (1, 1), (2, 1), (3, 1)] (by kernel_rfl) (zs := [.t (.v (.int .i64 0)), .t (.v (.int .i64 0)), .t (.v (.int .i64 0)), .t (.v (.int .i64 0))]) rfl (.cons rfl .nil) (cs := [_, _, _, _]) rfl ?_) | refine A_store rfl rfl 50 _ _ rfl inf50 rfl rfl rfl rfl (Nat.le_of_ble_eq_true rfl) qN qN ?_ | refine A_as rfl rfl rfl rfl ?_ | (refine kL 806 rfl ?_; refine A_idx_sl rfl rfl 25 _ _ rfl ud25 inf66 rfl rfl (by (simp; omega)) rfl (by omega) _ (by with_reducible exact Int.toNat_natCast _) (by omega) ?_) | refine A_load_rp_agg rfl rfl 66 _ rfl ud66 rfl inf66 rfl rfl (by exact map_get (by assumption)) (us' := [_, _, _, _, _]) rfl rfl ?_ | refine A_alloc rfl rfl 66 rfl inf66 (cs := [.t (.v (.int .i64 0)), .t (.v (.int .i64 0)), .t (.v (.bool false)), .t (.v (.bool false)), AV.nl]) rfl (.push qL qN) ?_ | refine A_store rfl rfl 66 _ _ rfl inf66 rfl rfl rfl rfl (Nat.le_of_ble_eq_true rfl) qN qN ?_ | (refine kL 2116 rfl ?_; (first | refine A_field rfl rfl 66 _ 2 rfl ud66 rfl inf4 (by decide) 2 rfl rfl ?_ | refine A_field rfl rfl 66 _ 0 rfl ud66 rfl inf3 (by decide) 0 rfl rfl ?_)) | refine A_load rfl rfl 4 _ rfl ud4 rfl rfl rfl rfl ?_ | (refine kL 1386 rfl ?_; refine A_cl rfl rfl Try.func43 rfl (cH) ?_) | refine AL.nil ?_)) | ((with_reducible refine kRG ?_); (first | refine R_field rfl rfl 66 _ 0 rfl ud66 rfl inf3 (by decide) 0 rfl rfl ?_ | refine R_load rfl rfl 3 _ rfl ud3 rfl rfl rfl rfl ?_ | (refine kR 0 rfl ?_; (first | refine R_mt rfl rfl rfl rfl ?_ | refine R_move rfl rfl _ (.inl rfl) (y := .ptr _ _) rfl ?_)) | (refine kR 31 rfl ?_; refine R_nilc rfl rfl _ rfl rfl rfl ?_) | (refine kR 2244 rfl ?_; (first | refine R_field rfl rfl 70 _ 1 rfl ud70 rfl inf24 (by decide) 4 rfl rfl ?_ | refine R_field rfl rfl 70 _ 0 rfl ud70 rfl inf29 (by decide) 0 rfl rfl ?_)) | refine R_field rfl rfl 24 _ 9 rfl ud24 rfl inf3 (by decide) 9 rfl rfl ?_ | (refine kR 12 rfl ?_; refine R_min rfl rfl _ _ _ rfl rfl rfl ?_) | (refine kR 105 rfl ?_; (first | refine R_cmp (d := 41) rfl rfl (c := false) .geq 3 3 _ _ rfl rfl rfl (by exact congrArg some (decide_eq_false (by (try (dsimp only; fail_if_success done)); omega))) ?_ | refine R_add rfl rfl 3 3 _ _ rfl rfl rfl (by exact wi) ?_)) | refine R_field rfl rfl 29 _ 1 rfl ud29 rfl inf25 (by decide) 1 rfl rfl ?_ | refine R_load rfl rfl 25 _ rfl ud25 rfl rfl rfl rfl ?_ | (refine kR 2126 rfl ?_; refine R_build rfl rfl 66 _ rfl ud66 inf66 [(0, 1), (1, 1), (2, 1), (3, 1), (4, 1)] (by kernel_rfl) (zs := [.t (.v (.int .i64 0)), .t (.v (.int .i64 0)), .t (.v (.bool false)), .t (.v (.bool false)), AV.nl]) rfl (.cons rfl (.cons rfl (.cons rfl .nil))) (cs := [_, _, _, _, _]) rfl ?_) | (refine kR 806 rfl ?_; refine R_idx_sl rfl rfl 25 _ _ rfl ud25 inf66 rfl rfl (by (simp; omega)) rfl (by omega) _ (by with_reducible exact Int.toNat_natCast _) (by omega) ?_) | (refine kR 2115 rfl ?_; refine R_store_rp rfl rfl 66 _ _ rfl inf66 (by decide) rfl rfl (by exact map_get (by assumption)) rfl rfl rfl (Nat.le_of_ble_eq_true rfl) (by exact map_set (f := tCh) (x := ⟨g + 1, cap, true, false, []⟩)) qN ?_) | refine RG.nil ⟨by kernel_rfl, ?_⟩)) | (with_reducible (first | refine wk0 ?_ | refine wk1 ?_ | refine wk2 ?_ | refine wk3 ?_ | refine wk6 ?_ | refine wk9 ?_ | refine wkb ?_ | refine wkd ?_)) | refine kct rfl ?_ | refine kcf rfl ?_ | with_reducible refine AW.at_region _ ?_ | refine AW.at_draw 8 mixed 0 [[], [0], [], [2], [2, 3], [2, 3, 4], [2, 3, 4, 5], [2, 3, 4, 5, 6], [0, 1, 2, 3, 4, 5, 6, 7]] qR ?_ | refine AW.at_draw 10 mixed 0 [[], [0], [0, 1], [0, 1, 2], [0, 1, 2, 3], [], [], [6], [6, 7], [], [6, 7, 8, 9], [0, 1, 2, 3, 4, 5, 6, 7, 8, 9, 10], [0, 1, 2, 3, 4, 5, 6, 7, 8, 9, 10, 11]] qR ?_)
          all_goals first | (exfalso; omega) | (exact Fin.q Try.results61 (.cons (.agg rfl rfl ud50 rfl inf50 (us := [_, _, _, _]) rfl rfl) .nil) [])
      · have e : q = m := by omega
        subst e
        have hix := ixF_none (okO c) h.chans fun j b hb => hno j (by have := get_lt hb; omega) b hb
        rw [hix, if_neg (by omega)] at hR
        rw [← hm, List.take_length]
        subst hR
        generalize (h.chans.any fun x => !x.used) = sp
        dsimp only
        cases sp
        all_goals
          repeat' (first | ((with_reducible refine kAL ?_); (first | refine A_mt rfl rfl rfl rfl ?_ | refine A_cmp (d := 27) rfl rfl (c := false) .lss 3 3 _ _ rfl rfl rfl (by exact congrArg some (decide_eq_false (by (try (dsimp only; fail_if_success done)); omega))) ?_ | (refine kL 1614 rfl ?_; refine A_build rfl rfl 50 _ rfl ud50 inf50 [(0, 1), (1, 1), (2, 1), (3, 1)] (by kernel_rfl) (zs := [.t (.v (.int .i64 0)), .t (.v (.int .i64 0)), .t (.v (.int .i64 0)), .t (.v (.int .i64 0))]) rfl (.cons rfl .nil) (cs := [_, _, _, _]) rfl ?_) | refine A_store rfl rfl 50 _ _ rfl inf50 rfl rfl rfl rfl (Nat.le_of_ble_eq_true rfl) qN qN ?_ | refine AL.nil ?_)) | (with_reducible (first | refine wk0 ?_ | refine wk2 ?_ | refine wk3 ?_ | refine wk4 ?_ | refine wk7 ?_ | refine wk9 ?_ | refine wkb ?_ | refine wkc ?_ | refine wkd ?_)) | refine kct rfl ?_ | refine kcf rfl ?_ | with_reducible refine AW.at_region _ ?_)
          all_goals first | (exfalso; omega) | (exact Fin.q Try.results61 (.cons (.agg rfl rfl ud50 rfl inf50 (us := [_, _, _, _]) rfl rfl) .nil) [])
theorem idleC_e (c : DChan) (x : Int) (l : List DWait) (hl : okW l) : Cd Try.prog 91 [aC c, i64 x, .ln (l.map tWt)] (bo (idleC c x l)) [] := idle_c c x l hl
set_option maxHeartbeats 8000000 in
theorem free_c (c : DConf) (m k : Nat) (h : DHall) (t n x : Int) (hx : sI x) (hm : h.chans.length = m) (hk : h.done.length = k) (hm1 : m ≤ 2932031007402) (hw : okW h.waits) :
    Cio Try.prog 62 [.ptr 0 0, i64 x] (stH c m k h t n) (aR (freeH h x).2) (stH c m k (freeH h x).1 t n) := by
  have h1 : (h.chans.map tCh).length = m := by rw [List.length_map, hm]
  have h1k : (h.done.map tR).length = k := by rw [List.length_map, hk]
  have cF := find_c h x hx (by omega)
  unfold freeH
  cases hf : fndOk h x
  · rw [if_neg (by simp)]
    rw [hf, fnd_no hf] at cF
    dsimp only [stH, stB, aR]
    refine Cio.enter' Try.func62 rfl Try.ntmps62 rfl qM ?_
    repeat' (first | ((with_reducible refine kAL ?_); (first | refine A_alloc rfl rfl 50 rfl inf50 (cs := [.t (.v (.int .i64 0)), .t (.v (.int .i64 0)), .t (.v (.int .i64 0)), .t (.v (.int .i64 0))]) rfl (.push qL qN) ?_ | (refine kL 0 rfl ?_; (first | refine A_mt rfl rfl rfl rfl ?_ | refine A_move rfl rfl _ (.inl rfl) (y := .ptr _ _) rfl ?_ | refine A_move rfl rfl _ (.inl rfl) (y := .tup _) rfl ?_)) | (refine kL 31 rfl ?_; refine A_nilc rfl rfl _ rfl rfl rfl ?_) | refine A_field rfl rfl 70 _ 0 rfl ud70 rfl inf29 (by decide) 0 rfl rfl ?_ | refine A_load_agg rfl rfl 29 _ rfl ud29 rfl inf29 rfl rfl (us' := [_, _, _, _]) rfl rfl ?_ | (refine kL 618 rfl ?_; refine A_cl rfl rfl Try.func19 rfl (cF) ?_) | (refine kL 18 rfl ?_; (first | refine A_extract rfl rfl _ 0 rfl rfl rfl ?_ | refine A_extract rfl rfl _ 1 rfl rfl rfl ?_)) | refine A_as rfl rfl rfl rfl ?_ | refine A_not rfl rfl _ _ rfl rfl ?_ | (refine kL 1614 rfl ?_; refine A_build rfl rfl 50 _ rfl ud50 inf50 [(0, 1), (1, 1), (2, 1), (3, 1)] (by kernel_rfl) (zs := [.t (.v (.int .i64 0)), .t (.v (.int .i64 0)), .t (.v (.int .i64 0)), .t (.v (.int .i64 0))]) rfl (.cons rfl .nil) (cs := [_, _, _, _]) rfl ?_) | refine A_store rfl rfl 50 _ _ rfl inf50 rfl rfl rfl rfl (Nat.le_of_ble_eq_true rfl) qN qN ?_ | refine AL.nil ?_)) | (with_reducible (first | refine wk0 ?_ | refine wk1 ?_ | refine wk2 ?_ | refine wk3 ?_ | refine wk6 ?_ | refine wk9 ?_ | refine wkb ?_)) | refine kct rfl ?_ | with_reducible refine AW.at_region _ ?_)
    all_goals first | (exfalso; omega) | (exact Fin.q Try.results62 (.cons (.agg rfl rfl ud50 rfl inf50 (us := [_, _, _, _]) rfl rfl) .nil) [])
  · obtain ⟨j, ch, e1, e2, hc, hu, hgn, e3, e4, e5⟩ := fnd_yes hf
    rw [if_pos rfl, e3, e4, Int.toNat_natCast]
    rw [hf, e3] at cF
    have cI := idleC_e ch x h.waits hw
    cases hi : idleC ch x h.waits
    · rw [hi] at cI
      rw [if_neg (by simp)]
      obtain ⟨g, cap, used, closed, buf⟩ := ch
      dsimp only [stH, stB, aR, aC] at cI ⊢
      refine Cio.enter' Try.func62 rfl Try.ntmps62 rfl qM ?_
      repeat' (first | ((with_reducible refine kAL ?_); (first | refine A_alloc rfl rfl 50 rfl inf50 (cs := [.t (.v (.int .i64 0)), .t (.v (.int .i64 0)), .t (.v (.int .i64 0)), .t (.v (.int .i64 0))]) rfl (.push qL qN) ?_ | (refine kL 0 rfl ?_; (first | refine A_mt rfl rfl rfl rfl ?_ | refine A_move rfl rfl _ (.inl rfl) (y := .ptr _ _) rfl ?_ | refine A_move rfl rfl _ (.inl rfl) (y := .tup _) rfl ?_)) | (refine kL 31 rfl ?_; refine A_nilc rfl rfl _ rfl rfl rfl ?_) | refine A_field rfl rfl 70 _ 0 rfl ud70 rfl inf29 (by decide) 0 rfl rfl ?_ | refine A_load_agg rfl rfl 29 _ rfl ud29 rfl inf29 rfl rfl (us' := [_, _, _, _]) rfl rfl ?_ | (refine kL 618 rfl ?_; refine A_cl rfl rfl Try.func19 rfl (cF) ?_) | (refine kL 18 rfl ?_; (first | refine A_extract rfl rfl _ 0 rfl rfl rfl ?_ | refine A_extract rfl rfl _ 1 rfl rfl rfl ?_)) | refine A_as rfl rfl rfl rfl ?_ | refine A_not rfl rfl _ _ rfl rfl ?_ | (refine kL 1614 rfl ?_; refine A_build rfl rfl 50 _ rfl ud50 inf50 [(0, 1), (1, 1), (2, 1), (3, 1)] (by kernel_rfl) (zs := [.t (.v (.int .i64 0)), .t (.v (.int .i64 0)), .t (.v (.int .i64 0)), .t (.v (.int .i64 0))]) rfl (.cons rfl .nil) (cs := [_, _, _, _]) rfl ?_) | refine A_store rfl rfl 50 _ _ rfl inf50 rfl rfl rfl rfl (Nat.le_of_ble_eq_true rfl) qN qN ?_ | refine AL.nil ?_)) | ((with_reducible refine kRG ?_); (first | (refine kR 0 rfl ?_; (first | refine R_mt rfl rfl rfl rfl ?_ | refine R_move rfl rfl _ (.inl rfl) (y := .ptr _ _) rfl ?_)) | (refine kR 31 rfl ?_; refine R_nilc rfl rfl _ rfl rfl rfl ?_) | refine R_field rfl rfl 70 _ 0 rfl ud70 rfl inf29 (by decide) 0 rfl rfl ?_ | (refine kR 932 rfl ?_; (first | refine R_field rfl rfl 29 _ 1 rfl ud29 rfl inf25 (by decide) 1 rfl rfl ?_ | refine R_field rfl rfl 29 _ 2 rfl ud29 rfl inf26 (by decide) 2 rfl rfl ?_)) | refine R_load rfl rfl 25 _ rfl ud25 rfl rfl rfl rfl ?_ | (refine kR 806 rfl ?_; refine R_idx_sl rfl rfl 25 _ _ rfl ud25 inf66 rfl rfl (by (simp; omega)) rfl (by omega) _ (by with_reducible exact Int.toNat_natCast _) (by omega) ?_) | refine R_load_rp_agg rfl rfl 66 _ rfl ud66 rfl inf66 rfl rfl (by exact map_get (by assumption)) (us' := [_, _, _, _, _]) rfl rfl ?_ | refine R_load rfl rfl 26 _ rfl ud26 rfl rfl rfl rfl ?_ | (refine kR 2922 rfl ?_; (refine R_cl rfl rfl Try.func91 rfl (cI) ?_; refine ⟨0, _, _, _, rfl, qU, qU, qZ, ?_⟩)) | refine R_not rfl rfl _ _ rfl rfl ?_ | refine R_as rfl rfl rfl rfl ?_ | refine RG.nil ⟨by kernel_rfl, ?_⟩)) | (with_reducible (first | refine wk0 ?_ | refine wk1 ?_ | refine wk2 ?_ | refine wk3 ?_ | refine wk6 ?_ | refine wk9 ?_ | refine wkb ?_)) | refine kct rfl ?_ | refine kcf rfl ?_ | with_reducible refine AW.at_region _ ?_ | refine AW.at_draw 4 mixed 0 [[], [0], [0, 1], [0, 1, 2], [0, 1, 2, 3], [], [0, 1, 2, 3, 4, 5], [0, 1, 2, 3, 4, 5, 6], [], [], [9], [9, 10], [9, 10, 11], [9, 10, 11, 12], [0, 1, 2, 3, 4, 5, 6, 7, 8, 9, 10, 11, 12, 13], [0, 1, 2, 3, 4, 5, 6, 7, 8, 9, 10, 11, 12, 13, 14], [0, 1, 2, 3, 4, 5, 6, 7, 8, 9, 10, 11, 12, 13, 14, 15]] qR ?_)
      all_goals first | (exfalso; omega) | (exact Fin.q Try.results62 (.cons (.agg rfl rfl ud50 rfl inf50 (us := [_, _, _, _]) rfl rfl) .nil) [])
    · rw [hi] at cI
      rw [if_pos rfl]
      obtain ⟨g, cap, used, closed, buf⟩ := ch
      dsimp only [stH, stB, aR, aC, cH] at cI ⊢
      refine Cio.enter' Try.func62 rfl Try.ntmps62 rfl qM ?_
      repeat' (first | ((with_reducible refine kAL ?_); (first | refine A_alloc rfl rfl 50 rfl inf50 (cs := [.t (.v (.int .i64 0)), .t (.v (.int .i64 0)), .t (.v (.int .i64 0)), .t (.v (.int .i64 0))]) rfl (.push qL qN) ?_ | (refine kL 0 rfl ?_; (first | refine A_mt rfl rfl rfl rfl ?_ | refine A_move rfl rfl _ (.inl rfl) (y := .ptr _ _) rfl ?_ | refine A_move rfl rfl _ (.inl rfl) (y := .tup _) rfl ?_)) | (refine kL 31 rfl ?_; refine A_nilc rfl rfl _ rfl rfl rfl ?_) | refine A_field rfl rfl 70 _ 0 rfl ud70 rfl inf29 (by decide) 0 rfl rfl ?_ | refine A_load_agg rfl rfl 29 _ rfl ud29 rfl inf29 rfl rfl (us' := [_, _, _, _]) rfl rfl ?_ | (refine kL 618 rfl ?_; refine A_cl rfl rfl Try.func19 rfl (cF) ?_) | (refine kL 18 rfl ?_; (first | refine A_extract rfl rfl _ 0 rfl rfl rfl ?_ | refine A_extract rfl rfl _ 1 rfl rfl rfl ?_)) | refine A_as rfl rfl rfl rfl ?_ | refine A_not rfl rfl _ _ rfl rfl ?_ | (refine kL 1614 rfl ?_; refine A_build rfl rfl 50 _ rfl ud50 inf50 [(0, 1), (1, 1), (2, 1), (3, 1)] (by kernel_rfl) (zs := [.t (.v (.int .i64 0)), .t (.v (.int .i64 0)), .t (.v (.int .i64 0)), .t (.v (.int .i64 0))]) rfl .nil (cs := [_, _, _, _]) rfl ?_) | refine A_store rfl rfl 50 _ _ rfl inf50 rfl rfl rfl rfl (Nat.le_of_ble_eq_true rfl) qN qN ?_ | refine AL.nil ?_)) | ((with_reducible refine kRG ?_); (first | (refine kR 0 rfl ?_; (first | refine R_mt rfl rfl rfl rfl ?_ | refine R_move rfl rfl _ (.inl rfl) (y := .ptr _ _) rfl ?_)) | (refine kR 31 rfl ?_; refine R_nilc rfl rfl _ rfl rfl rfl ?_) | refine R_field rfl rfl 70 _ 0 rfl ud70 rfl inf29 (by decide) 0 rfl rfl ?_ | (refine kR 932 rfl ?_; (first | refine R_field rfl rfl 29 _ 1 rfl ud29 rfl inf25 (by decide) 1 rfl rfl ?_ | refine R_field rfl rfl 29 _ 2 rfl ud29 rfl inf26 (by decide) 2 rfl rfl ?_)) | refine R_load rfl rfl 25 _ rfl ud25 rfl rfl rfl rfl ?_ | (refine kR 806 rfl ?_; refine R_idx_sl rfl rfl 25 _ _ rfl ud25 inf66 rfl rfl (by (simp; omega)) rfl (by omega) _ (by with_reducible exact Int.toNat_natCast _) (by omega) ?_) | refine R_load_rp_agg rfl rfl 66 _ rfl ud66 rfl inf66 rfl rfl (by exact map_get (by assumption)) (us' := [_, _, _, _, _]) rfl rfl ?_ | refine R_load rfl rfl 26 _ rfl ud26 rfl rfl rfl rfl ?_ | (refine kR 2922 rfl ?_; (refine R_cl rfl rfl Try.func91 rfl (cI) ?_; refine ⟨0, _, _, _, rfl, qU, qU, qZ, ?_⟩)) | refine R_not rfl rfl _ _ rfl rfl ?_ | refine R_as rfl rfl rfl rfl ?_ | refine R_field rfl rfl 66 _ 0 rfl ud66 rfl inf3 (by decide) 0 rfl rfl ?_ | refine R_load_rp rfl rfl 3 _ rfl ud3 rfl rfl rfl (by exact map_get (by assumption)) rfl ?_ | (refine kR 2126 rfl ?_; refine R_build rfl rfl 66 _ rfl ud66 inf66 [(0, 1), (1, 1), (2, 1), (3, 1), (4, 1)] (by kernel_rfl) (zs := [.t (.v (.int .i64 0)), .t (.v (.int .i64 0)), .t (.v (.bool false)), .t (.v (.bool false)), AV.nl]) rfl (.cons rfl .nil) (cs := [_, _, _, _, _]) rfl ?_) | (refine kR 2115 rfl ?_; refine R_store_rp rfl rfl 66 _ _ rfl inf66 (by decide) rfl rfl (by exact map_get (by assumption)) rfl rfl rfl (Nat.le_of_ble_eq_true rfl) (by exact map_set (f := tCh) (x := ⟨g, 0, false, false, []⟩)) qN ?_) | refine RG.nil ⟨by kernel_rfl, ?_⟩)) | (with_reducible (first | refine wk0 ?_ | refine wk1 ?_ | refine wk2 ?_ | refine wk5 ?_ | refine wk9 ?_ | refine wkb ?_ | refine wkd ?_)) | refine kcf rfl ?_ | with_reducible refine AW.at_region _ ?_ | refine AW.at_draw 4 mixed 0 [[], [0], [0, 1], [0, 1, 2], [0, 1, 2, 3], [], [0, 1, 2, 3, 4, 5], [0, 1, 2, 3, 4, 5, 6], [], [], [9], [9, 10], [9, 10, 11], [9, 10, 11, 12], [0, 1, 2, 3, 4, 5, 6, 7, 8, 9, 10, 11, 12, 13], [0, 1, 2, 3, 4, 5, 6, 7, 8, 9, 10, 11, 12, 13, 14], [0, 1, 2, 3, 4, 5, 6, 7, 8, 9, 10, 11, 12, 13, 14, 15]] qR ?_ | refine AW.at_draw 6 mixed 0 [[], [0], [0, 1], [0, 1, 2], [0, 1, 2, 3], [], [], [6], [6, 7], [6, 7, 8], [6, 7, 8, 9], [], [6, 7, 8, 9, 10, 11], [6, 7, 8, 9, 10, 11, 12], [6, 7, 8, 9, 10, 11, 12, 13], [6, 7, 8, 9, 10, 11, 12, 13, 14], [0, 1, 2, 3, 4, 5, 6, 7, 8, 9, 10, 11, 12, 13, 14, 15], [0, 1, 2, 3, 4, 5, 6, 7, 8, 9, 10, 11, 12, 13, 14, 15, 16]] qR ?_)
      all_goals first | (exfalso; omega) | (exact Fin.q Try.results62 (.cons (.agg rfl rfl ud50 rfl inf50 (us := [_, _, _, _]) rfl rfl) .nil) [])
end Go.Proofs.Ytphcebioiipdpaa

