/- Who waits for a channel: the reference's On. -/
import Derived.Test.YtkichjejadkdgaaTOnB
import Derived.Test.YtkichjejadkdgaaLC
namespace Go.Proofs.Ytkichjejadkdgaa
set_option linter.unusedVariables false
set_option linter.unusedSimpArgs false
set_option linter.unnecessarySimpa false
open Go.RowKit
set_option maxHeartbeats 32000000
attribute [local irreducible] AL AW RG Fin C Cd Cio thenQ blockQ retQ
set_option maxRecDepth 100000
theorem insS_skip {α : Type} {key : α → Int} {x : α} : ∀ {S1 S2 : List α}, (∀ y ∈ S1, ¬ key x < key y) → insS key x (S1 ++ S2) = S1 ++ insS key x S2
  | [], _, _ => rfl
  | y :: s, S2, h => by
    simp only [List.cons_append]; rw [insS, if_neg (h y (by simp)), insS_skip fun z hz => h z (by simp [hz])]
theorem plI_isH (a : DWait) (h : Int) : plI a (isP 0 h) = plI a (isH h) := by
  have : isP 0 h = isH h := by funext c; simp [isP, isH]
  rw [this]
structure OnS where
  j : Nat
  k : Nat
  n : Nat
  M : List Int
  put : Bool
set_option maxHeartbeats 16000000 in
theorem onR_c (l : List DWait) (h : Int) (hl : okW l) : Cd Try.prog 46 [.ln (l.map tWt), i64 h] (.t (.lst ((isort (tick l) (onK l h l.length)).map tI))) [] := by
  have h0 := hl.1
  have h1 : (l.map tWt).length = l.length := List.length_map _
  first | refine Cd.enter' Try.func46 rfl Try.ntmps46 rfl ?_ | refine Cio.enter' Try.func46 rfl Try.ntmps46 rfl qM ?_ | refine C.enter' Try.func46 rfl Try.ntmps46 rfl qM ?_
  repeat' (first | ((with_reducible refine kAL ?_); (first | (refine kL 1 rfl ?_; (first | (refine A_move (d := 5) rfl rfl _ (.inr rfl) (y := .nl) rfl ?_; (try refine AL.wk (Wk.nz 5 rfl (by exact .nlt)) ?_)) | refine A_move rfl rfl _ (.inr rfl) (y := .nl) rfl ?_)) | (refine kL 0 rfl ?_; (first | refine A_mt rfl rfl rfl rfl ?_ | refine A_move rfl rfl _ (.inl rfl) (y := .ln _) rfl ?_)) | refine A_len rfl rfl 47 _ rfl ud47 rfl ?_ | refine AL.nil ?_)) | (with_reducible (first | refine wk0 ?_ | refine wk1 ?_ | refine wk2 ?_)) | with_reducible refine AW.at_region _ ?_)
  refine AW.loopP (fun (x : Nat × List Int) => x.1 ≤ l.length ∧ x.2 = isort (tick l) (onK l h x.1)) (fun (x : Nat × List Int) => (pu (pu (pu (pu (pu (pu (fun _ => .any) 0 (.ln (l.map tWt))) 1 (i64 h)) 5 (.t (.lst (x.2.map tI)))) 12 (.ln (l.map tWt))) 13 (i64 (l.map tWt).length)) 14 (i64 x.1))) (fun (x : Nat × List Int) => []) (fun (x : Nat × List Int) => l.length - x.1) ((0, [])) ?_ ?_ ?_
  · exact ⟨Nat.zero_le _, rfl⟩
  · exact Wk.cq 0
  · rintro ⟨q, O⟩ ⟨h2, h3⟩
    dsimp only at h2 h3 ⊢
    by_cases hq : q < l.length
    · obtain ⟨a, ha⟩ : ∃ a, l[q]? = some a := ⟨_, List.getElem?_eq_getElem hq⟩
      have hn := onK_next (h := h) ha
      have cP := place_c a 0 h (by have := hl.at ha; omega)
      rw [plI_isH] at cP
      have hOb : ∀ z ∈ O, 0 ≤ z ∧ z < q := fun z hz => (onK_b l h q).2 z (isort_mem.1 (by rw [← h3]; exact hz))
      have hOl : O.length ≤ q := by rw [h3, isort_len]; exact (onK_b l h q).1
      have hOt : (O.map tI).length = O.length := List.length_map _
      have hix := ixF_b (isH h) a.cases
      have hca := hl.at ha
      by_cases hon : a.on = true ∧ 0 ≤ ixF (isH h) a.cases
      · have hpl : plI a (isH h) = ixF (isH h) a.cases := by unfold plI; rw [if_pos hon.1]
        rw [hpl] at cP
        rw [show (a.on && decide (0 ≤ ixF (isH h) a.cases)) = true by rw [hon.1, decide_eq_true hon.2]; rfl, if_pos rfl] at hn
        have hres : isort (tick l) (onK l h (q + 1)) = insS (tick l) q O := by rw [hn, isort_next, ← h3]
        have htq : tick l (q : Int) = a.ticket := by unfold tick; rw [Int.toNat_natCast, getD_of ha]
        obtain ⟨aon, atk, asq, acs⟩ := a
        dsimp only at htq hon
        repeat' (first | ((with_reducible refine kAL ?_); (first | (refine kL 1 rfl ?_; (first | refine A_as rfl rfl rfl rfl ?_ | refine A_move rfl rfl _ (.inr rfl) (y := .nl) rfl ?_)) | refine A_mt rfl rfl rfl rfl ?_ | refine A_len rfl rfl 44 _ rfl ud44 rfl ?_ | (refine kL 105 rfl ?_; (first | refine A_cmp rfl rfl (c := true) .lss 3 3 _ _ rfl rfl rfl (by exact congrArg some (decide_eq_true (by (try (dsimp only; fail_if_success done)); omega))) ?_ | refine A_cmp rfl rfl (c := false) .lss 3 3 _ _ rfl rfl rfl (by exact congrArg some (decide_eq_false (by (try (dsimp only; fail_if_success done)); omega))) ?_)) | (refine kL 1510 rfl ?_; refine A_idx rfl rfl 47 _ _ rfl ud47 inf50 (by decide) (by exact .inl rfl) rfl (by omega) _ (by with_reducible exact Int.toNat_natCast _) (by exact map_get (by assumption)) rfl (cs' := [_, _, _, _]) rfl ?_) | (refine kL 1602 rfl ?_; (first | refine A_load_agg rfl rfl 50 _ rfl ud50 rfl inf50 rfl rfl (us' := [_, _, _, _]) rfl rfl ?_ | refine A_load_lp_agg rfl rfl 50 _ rfl ud50 rfl inf50 rfl (us' := [_, _, _, _]) rfl rfl ?_)) | refine A_alloc rfl rfl 50 rfl inf50 (cs := [.t (.v (.bool false)), .t (.v (.int .i64 0)), .t (.v (.int .i64 0)), AV.nl]) rfl (.push qL qN) ?_ | refine A_store rfl rfl 50 _ _ rfl inf50 rfl rfl rfl rfl (Nat.le_of_ble_eq_true rfl) qN qN ?_ | (refine kL 2890 rfl ?_; refine A_cl rfl rfl Try.func90 rfl (cP) ?_) | refine AL.nil ?_)) | (with_reducible (first | refine wk0 ?_ | refine wk1 ?_ | refine wk2 ?_ | refine wkd ?_)) | refine kct rfl ?_ | refine kcf rfl ?_ | with_reducible refine AW.at_region _ ?_)
        all_goals first | (exfalso; omega) | skip
        refine AW.wk (Wk.own 8 rfl 3 1 (.push rfl rfl)) ?_
        refine AW.loopP (fun (y : OnS) => y.j ≤ O.length ∧ y.n = y.M.length ∧ y.M.length ≤ y.j + 1 ∧ (y.put = true → y.M ++ O.drop y.j = insS (tick l) q O) ∧ (y.put = false → y.M = O.take y.j ∧ ∀ z ∈ O.take y.j, ¬ tick l q < tick l z)) (fun (y : OnS) => (pu (pu (pu (pu (pu (pu (pu (pu (pu (pu (pu (pu (fun _ => .any) 0 (.ln (l.map tWt))) 1 (i64 h)) 6 (i64 q)) 7 (.ptr 0 0)) 8 (.sl 1 y.k y.n)) 9 (bo y.put)) 12 (.ln (l.map tWt))) 13 (i64 (l.map tWt).length)) 14 (i64 q)) 23 (.t (.lst (O.map tI)))) 24 (i64 (O.map tI).length)) 25 (i64 y.j))) (fun (y : OnS) => [.box 50 [bo aon, i64 atk, i64 asq, .t (.lst (acs.map tCs))], .row y.k 3 1 (y.M.map tI)]) (fun (y : OnS) => O.length - y.j) (⟨0, 0, 0, [], false⟩) ?_ ?_ ?_
        · exact ⟨Nat.zero_le _, rfl, by decide, fun h => (by cases h), fun _ => ⟨rfl, fun z hz => by simp at hz⟩⟩
        · exact Wk.cq 2
        · rintro ⟨j, k, n', M, put⟩ ⟨g1, g0, g2, g3, g4⟩
          dsimp only at g1 g0 g2 g3 g4 ⊢
          subst g0
          have hMt : (M.map tI).length = M.length := List.length_map _
          by_cases hj : j < O.length
          · obtain ⟨z, hz⟩ : ∃ z, O[j]? = some z := ⟨_, List.getElem?_eq_getElem hj⟩
            obtain ⟨z1, z2⟩ := hOb z (List.mem_of_getElem? hz)
            obtain ⟨n, rfl⟩ : ∃ n : Nat, z = n := ⟨z.toNat, by omega⟩
            obtain ⟨b, hb⟩ : ∃ b, l[n]? = some b := ⟨_, List.getElem?_eq_getElem (by omega)⟩
            have htn : tick l (n : Int) = b.ticket := by unfold tick; rw [Int.toNat_natCast, getD_of hb]
            have hdj : O.drop j = (n : Int) :: O.drop (j + 1) := drop_next hz
            have htj : O.take (j + 1) = O.take j ++ [(n : Int)] := by rw [List.take_add_one, hz]; rfl
            obtain ⟨b1, b2, b3, b4⟩ := b
            dsimp only at htn
            cases put
            · obtain ⟨k1, k2⟩ := g4 rfl
              by_cases hk : atk < b2
              · have hnew : (M ++ [(q : Int)] ++ [(n : Int)]) ++ O.drop (j + 1) = insS (tick l) q O := by
                  conv => rhs; rw [← List.take_append_drop j O, insS_skip k2, hdj]
                  rw [insS, if_pos (by rw [htq, htn]; exact hk), k1]; simp [List.append_assoc]
                repeat' (first | ((with_reducible refine kAL ?_); (first | (refine kL 1 rfl ?_; (first | refine A_as rfl rfl rfl rfl ?_ | refine A_move rfl rfl _ (.inr rfl) (y := .sl _ _ _) rfl ?_)) | (refine kL 0 rfl ?_; (first | refine A_mt rfl rfl rfl rfl ?_ | refine A_move rfl rfl _ (.inl rfl) (y := .sl _ _ _) rfl ?_)) | (refine kL 12 rfl ?_; refine A_append rfl rfl _ _ 44 rfl ud44 inf3 rfl rfl rfl (by first | (simp <;> fail) | fail) (by exact .all rfl (by rfl)) qB qB (by first | exact app_one (f := tI) (x := _) (by first | rfl | (simp <;> fail)) | fail) qN qS ?_) | (refine kL 105 rfl ?_; (first | refine A_cmp rfl rfl (c := true) .lss 3 3 _ _ rfl rfl rfl (by exact congrArg some (decide_eq_true (by (try (dsimp only; fail_if_success done)); omega))) ?_ | refine A_add rfl rfl 3 3 _ _ rfl rfl rfl (by exact wi) ?_)) | (refine kL 1414 rfl ?_; refine A_idx rfl rfl 44 _ _ rfl ud44 inf3 (by decide) (by exact .inr rfl) rfl (by omega) _ (by with_reducible exact Int.toNat_natCast _) (by exact map_get (by assumption)) rfl (cs' := [_]) rfl ?_) | refine A_load_lp rfl rfl 3 _ rfl ud3 rfl rfl rfl ?_ | (refine kL 1423 rfl ?_; refine A_lit rfl rfl 44 1 _ rfl ud44 inf3 (.cons rfl .nil) (els := [[_]]) rfl (by exact (rfl : _ = List.map tI [_])) rfl (Nat.ne_of_beq_eq_false rfl) (Nat.le_of_ble_eq_true rfl) (Nat.le_of_ble_eq_true rfl) (.push qL qN) ?_) | refine AL.nil ?_)) | ((with_reducible refine kRG ?_); (first | (refine kR 0 rfl ?_; (first | refine R_mt rfl rfl rfl rfl ?_ | refine R_move rfl rfl _ (.inl rfl) (y := .ln _) rfl ?_)) | refine R_not rfl rfl _ _ rfl rfl ?_ | (refine kR 1510 rfl ?_; refine R_idx rfl rfl 47 _ _ rfl ud47 inf50 (by decide) (by exact .inl rfl) rfl (by omega) _ (by with_reducible exact Int.toNat_natCast _) (by exact map_get (by assumption)) rfl (cs' := [_, _, _, _]) rfl ?_) | refine R_field rfl rfl 50 _ 1 rfl ud50 rfl inf3 (by decide) 1 rfl rfl ?_ | (refine kR 98 rfl ?_; (first | refine R_load rfl rfl 3 _ rfl ud3 rfl rfl rfl rfl ?_ | refine R_load_lp rfl rfl 3 _ rfl ud3 rfl rfl rfl ?_)) | refine R_cmp rfl rfl (c := true) .gtr 3 3 _ _ rfl rfl rfl (by exact congrArg some (decide_eq_true (by (try (dsimp only; fail_if_success done)); omega))) ?_ | refine R_pick rfl rfl _ _ _ rfl rfl rfl rfl rfl ?_ | refine RG.nil ⟨by kernel_rfl, ?_⟩)) | (with_reducible (first | refine wk0 ?_ | refine wk1 ?_ | refine wk2 ?_ | refine wk5 ?_ | refine wkd ?_)) | refine kct rfl ?_ | with_reducible refine AW.at_region _ ?_ | refine AW.at_draw 11 mixed 0 [[], [0], [0, 1], [0, 1, 2], [0, 1, 2], [0, 1, 2, 3, 4], [0, 1, 2, 3, 4, 5], [0, 1, 2, 3, 4, 5, 6], [0, 1, 2], [0, 1, 2, 8], [0, 1, 2, 3, 4, 5, 6, 7, 8, 9], [0, 1, 2, 3, 4, 5, 6, 7, 8, 9, 10]] qR ?_)
                all_goals first | (exfalso; omega) | skip
                refine ⟨⟨j + 1, k + 1 + 1, M.length + 1 + 1, M ++ [(q : Int)] ++ [(n : Int)], true⟩, ⟨by dsimp only; omega, by simp, ?_, fun _ => hnew, fun h => (by cases h)⟩, by dsimp only; omega, ?_⟩
                · dsimp only; rw [k1]; simp; omega
                · exact Wk.cq 2
              · repeat' (first | ((with_reducible refine kAL ?_); (first | (refine kL 1 rfl ?_; (first | refine A_as rfl rfl rfl rfl ?_ | refine A_move rfl rfl _ (.inr rfl) (y := .sl _ _ _) rfl ?_)) | (refine kL 0 rfl ?_; (first | refine A_mt rfl rfl rfl rfl ?_ | refine A_move rfl rfl _ (.inl rfl) (y := .sl _ _ _) rfl ?_)) | (refine kL 12 rfl ?_; refine A_append rfl rfl _ _ 44 rfl ud44 inf3 rfl rfl rfl (by first | (simp <;> fail) | fail) (by exact .all rfl (by rfl)) qB qB (by exact app_one (f := tI) (x := _) (by rfl)) qN qS ?_) | (refine kL 105 rfl ?_; (first | refine A_cmp rfl rfl (c := true) .lss 3 3 _ _ rfl rfl rfl (by exact congrArg some (decide_eq_true (by (try (dsimp only; fail_if_success done)); omega))) ?_ | refine A_add rfl rfl 3 3 _ _ rfl rfl rfl (by exact wi) ?_)) | (refine kL 1414 rfl ?_; refine A_idx rfl rfl 44 _ _ rfl ud44 inf3 (by decide) (by exact .inr rfl) rfl (by omega) _ (by with_reducible exact Int.toNat_natCast _) (by exact map_get (by assumption)) rfl (cs' := [_]) rfl ?_) | refine A_load_lp rfl rfl 3 _ rfl ud3 rfl rfl rfl ?_ | (refine kL 1423 rfl ?_; refine A_lit rfl rfl 44 1 _ rfl ud44 inf3 (.cons rfl .nil) (els := [[_]]) rfl (by exact (rfl : _ = List.map tI [_])) rfl (Nat.ne_of_beq_eq_false rfl) (Nat.le_of_ble_eq_true rfl) (Nat.le_of_ble_eq_true rfl) (.push qL qN) ?_) | refine AL.nil ?_)) | ((with_reducible refine kRG ?_); (first | (refine kR 0 rfl ?_; (first | refine R_mt rfl rfl rfl rfl ?_ | refine R_move rfl rfl _ (.inl rfl) (y := .ln _) rfl ?_)) | refine R_not rfl rfl _ _ rfl rfl ?_ | (refine kR 1510 rfl ?_; refine R_idx rfl rfl 47 _ _ rfl ud47 inf50 (by decide) (by exact .inl rfl) rfl (by omega) _ (by with_reducible exact Int.toNat_natCast _) (by exact map_get (by assumption)) rfl (cs' := [_, _, _, _]) rfl ?_) | refine R_field rfl rfl 50 _ 1 rfl ud50 rfl inf3 (by decide) 1 rfl rfl ?_ | (refine kR 98 rfl ?_; (first | refine R_load rfl rfl 3 _ rfl ud3 rfl rfl rfl rfl ?_ | refine R_load_lp rfl rfl 3 _ rfl ud3 rfl rfl rfl ?_)) | refine R_cmp rfl rfl (c := false) .gtr 3 3 _ _ rfl rfl rfl (by exact congrArg some (decide_eq_false (by (try (dsimp only; fail_if_success done)); omega))) ?_ | refine R_pick rfl rfl _ _ _ rfl rfl rfl rfl rfl ?_ | refine RG.nil ⟨by kernel_rfl, ?_⟩)) | (with_reducible (first | refine wk0 ?_ | refine wk1 ?_ | refine wk2 ?_ | refine wk5 ?_ | refine wkd ?_)) | refine kct rfl ?_ | refine kcf rfl ?_ | with_reducible refine AW.at_region _ ?_ | refine AW.at_draw 11 mixed 0 [[], [0], [0, 1], [0, 1, 2], [0, 1, 2], [0, 1, 2, 3, 4], [0, 1, 2, 3, 4, 5], [0, 1, 2, 3, 4, 5, 6], [0, 1, 2], [0, 1, 2, 8], [0, 1, 2, 3, 4, 5, 6, 7, 8, 9], [0, 1, 2, 3, 4, 5, 6, 7, 8, 9, 10]] qR ?_)
                all_goals first | (exfalso; omega) | skip
                refine ⟨⟨j + 1, k + 1, M.length + 1, M ++ [(n : Int)], false⟩, ⟨by dsimp only; omega, by simp, by simp; omega, fun h => (by cases h), fun _ => ⟨by dsimp only; rw [htj, k1], fun z hz => ?_⟩⟩, by dsimp only; omega, ?_⟩
                · dsimp only at hz; rw [htj] at hz
                  rcases List.mem_append.1 hz with hz | hz
                  · exact k2 z hz
                  · simp at hz; subst hz; rw [htq, htn]; exact hk
                · exact Wk.cq 2
            · have k1 := g3 rfl
              repeat' (first | ((with_reducible refine kAL ?_); (first | (refine kL 1 rfl ?_; (first | refine A_as rfl rfl rfl rfl ?_ | refine A_move rfl rfl _ (.inr rfl) (y := .sl _ _ _) rfl ?_)) | (refine kL 0 rfl ?_; (first | refine A_mt rfl rfl rfl rfl ?_ | refine A_move rfl rfl _ (.inl rfl) (y := .sl _ _ _) rfl ?_)) | (refine kL 12 rfl ?_; refine A_append rfl rfl _ _ 44 rfl ud44 inf3 rfl rfl rfl (by first | (simp <;> fail) | fail) (by exact .all rfl (by rfl)) qB qB (by exact app_one (f := tI) (x := _) (by rfl)) qN qS ?_) | (refine kL 105 rfl ?_; (first | refine A_cmp rfl rfl (c := true) .lss 3 3 _ _ rfl rfl rfl (by exact congrArg some (decide_eq_true (by (try (dsimp only; fail_if_success done)); omega))) ?_ | refine A_add rfl rfl 3 3 _ _ rfl rfl rfl (by exact wi) ?_)) | (refine kL 1414 rfl ?_; refine A_idx rfl rfl 44 _ _ rfl ud44 inf3 (by decide) (by exact .inr rfl) rfl (by omega) _ (by with_reducible exact Int.toNat_natCast _) (by exact map_get (by assumption)) rfl (cs' := [_]) rfl ?_) | refine A_load_lp rfl rfl 3 _ rfl ud3 rfl rfl rfl ?_ | (refine kL 1423 rfl ?_; refine A_lit rfl rfl 44 1 _ rfl ud44 inf3 (.cons rfl .nil) (els := [[_]]) rfl (by exact (rfl : _ = List.map tI [_])) rfl (Nat.ne_of_beq_eq_false rfl) (Nat.le_of_ble_eq_true rfl) (Nat.le_of_ble_eq_true rfl) (.push qL qN) ?_) | refine AL.nil ?_)) | ((with_reducible refine kRG ?_); (first | refine R_mt rfl rfl rfl rfl ?_ | refine R_not rfl rfl _ _ rfl rfl ?_ | refine R_pick rfl rfl _ _ _ rfl rfl rfl rfl rfl ?_ | refine RG.nil ⟨by kernel_rfl, ?_⟩ | refine R_skip rfl rfl ?_)) | (with_reducible (first | refine wk0 ?_ | refine wk1 ?_ | refine wk2 ?_ | refine wk5 ?_ | refine wkd ?_)) | refine kct rfl ?_ | refine kcf rfl ?_ | with_reducible refine AW.at_region _ ?_ | refine AW.at_draw 11 mixed 0 [[], [0], [0, 1], [0, 1, 2], [0, 1, 2], [0, 1, 2, 3, 4], [0, 1, 2, 3, 4, 5], [0, 1, 2, 3, 4, 5, 6], [0, 1, 2], [0, 1, 2, 8], [0, 1, 2, 3, 4, 5, 6, 7, 8, 9], [0, 1, 2, 3, 4, 5, 6, 7, 8, 9, 10]] qR ?_)
              all_goals first | (exfalso; omega) | skip
              refine ⟨⟨j + 1, k + 1, M.length + 1, M ++ [(n : Int)], true⟩, ⟨by dsimp only; omega, by simp, by simp; omega, fun _ => by dsimp only; rw [← k1, hdj]; simp, fun h => (by cases h)⟩, by dsimp only; omega, ?_⟩
              exact Wk.cq 2
          · have ej : j = O.length := by omega
            subst ej
            cases put
            · obtain ⟨k1, k2⟩ := g4 rfl
              rw [List.take_length] at k1 k2
              have hnew : M ++ [(q : Int)] = insS (tick l) q O := by
                have := insS_skip (key := tick l) (x := (q : Int)) (S2 := []) k2
                rw [List.append_nil] at this
                rw [this, k1]; rfl
              repeat' (first | ((with_reducible refine kAL ?_); (first | (refine kL 1 rfl ?_; (first | (refine A_move (d := 5) rfl rfl _ (.inr rfl) (y := .sl _ _ _) rfl ?_; (try refine AL.wk (Wk.freeze 1 rfl 5 rfl (by first | exact .all (by first | (simp <;> fail) | fail) | fail) qN) ?_)) | refine A_move rfl rfl _ (.inr rfl) (y := .sl _ _ _) rfl ?_)) | (refine kL 0 rfl ?_; (first | refine A_mt rfl rfl rfl rfl ?_ | refine A_move rfl rfl _ (.inl rfl) (y := .sl _ _ _) rfl ?_)) | (refine kL 12 rfl ?_; refine A_append rfl rfl _ _ 44 rfl ud44 inf3 rfl rfl rfl (by first | (simp <;> fail) | fail) (by exact .all rfl (by rfl)) qB qB (by exact app_one (f := tI) (x := _) (by rfl)) qN qS ?_) | (refine kL 105 rfl ?_; (first | refine A_cmp rfl rfl (c := false) .lss 3 3 _ _ rfl rfl rfl (by exact congrArg some (decide_eq_false (by (try (dsimp only; fail_if_success done)); omega))) ?_ | refine A_add rfl rfl 3 3 _ _ rfl rfl rfl (by exact wi) ?_)) | (refine kL 1423 rfl ?_; refine A_lit rfl rfl 44 1 _ rfl ud44 inf3 (.cons rfl .nil) (els := [[_]]) rfl (by exact (rfl : _ = List.map tI [_])) rfl (Nat.ne_of_beq_eq_false rfl) (Nat.le_of_ble_eq_true rfl) (Nat.le_of_ble_eq_true rfl) (.push qL qN) ?_) | refine A_not rfl rfl _ _ rfl rfl ?_ | refine AL.nil ?_)) | (with_reducible (first | refine wk0 ?_ | refine wk2 ?_ | refine wk4 ?_ | refine wk5 ?_ | refine wk7 ?_ | refine wkc ?_)) | refine kct rfl ?_ | refine kcf rfl ?_ | with_reducible refine AW.at_region _ ?_)
              all_goals first | (exfalso; omega) | skip
              rw [hnew, ← hres]
              refine ⟨(q + 1, isort (tick l) (onK l h (q + 1))), ⟨by dsimp only; omega, rfl⟩, by dsimp only; omega, ?_⟩
              exact Wk.cq 0
            · have k1 := g3 rfl
              rw [List.drop_length, List.append_nil] at k1
              repeat' (first | ((with_reducible refine kAL ?_); (first | (refine kL 1 rfl ?_; (refine A_move (d := 5) rfl rfl _ (.inr rfl) (y := .sl _ _ _) rfl ?_; (try refine AL.wk (Wk.freeze 1 rfl 5 rfl (by first | exact .all (by first | (simp <;> fail) | fail) | fail) qN) ?_))) | (refine kL 0 rfl ?_; (first | refine A_mt rfl rfl rfl rfl ?_ | refine A_move rfl rfl _ (.inl rfl) (y := .sl _ _ _) rfl ?_)) | (refine kL 105 rfl ?_; (first | refine A_cmp rfl rfl (c := false) .lss 3 3 _ _ rfl rfl rfl (by exact congrArg some (decide_eq_false (by (try (dsimp only; fail_if_success done)); omega))) ?_ | refine A_add rfl rfl 3 3 _ _ rfl rfl rfl (by exact wi) ?_)) | refine A_not rfl rfl _ _ rfl rfl ?_ | refine AL.nil ?_)) | (with_reducible (first | refine wk0 ?_ | refine wk2 ?_ | refine wk4 ?_ | refine wk5 ?_ | refine wk7 ?_ | refine wkc ?_ | refine wkd ?_)) | refine kcf rfl ?_ | with_reducible refine AW.at_region _ ?_)
              all_goals first | (exfalso; omega) | skip
              rw [k1, ← hres]
              refine ⟨(q + 1, isort (tick l) (onK l h (q + 1))), ⟨by dsimp only; omega, rfl⟩, by dsimp only; omega, ?_⟩
              exact Wk.cq 0
      · have hpl : plI a (isH h) < 0 := by
          unfold plI
          cases ha2 : a.on
          · simp
          · rw [if_pos rfl]
            by_cases e : 0 ≤ ixF (isH h) a.cases
            · exact absurd ⟨ha2, e⟩ hon
            · omega
        rw [show (a.on && decide (0 ≤ ixF (isH h) a.cases)) = false by
          cases ha2 : a.on
          · rfl
          · rw [decide_eq_false fun e => hon ⟨ha2, e⟩]; rfl, if_neg (by simp)] at hn
        generalize plI a (isH h) = z at cP hpl
        obtain ⟨aon, atk, asq, acs⟩ := a
        repeat' (first | ((with_reducible refine kAL ?_); (first | refine A_as rfl rfl rfl rfl ?_ | refine A_mt rfl rfl rfl rfl ?_ | (refine kL 105 rfl ?_; (first | refine A_cmp rfl rfl (c := true) .lss 3 3 _ _ rfl rfl rfl (by exact congrArg some (decide_eq_true (by (try (dsimp only; fail_if_success done)); omega))) ?_ | refine A_add rfl rfl 3 3 _ _ rfl rfl rfl (by exact wi) ?_)) | (refine kL 1510 rfl ?_; refine A_idx rfl rfl 47 _ _ rfl ud47 inf50 (by decide) (by exact .inl rfl) rfl (by omega) _ (by with_reducible exact Int.toNat_natCast _) (by exact map_get (by assumption)) rfl (cs' := [_, _, _, _]) rfl ?_) | (refine kL 1602 rfl ?_; (first | refine A_load_agg rfl rfl 50 _ rfl ud50 rfl inf50 rfl rfl (us' := [_, _, _, _]) rfl rfl ?_ | refine A_load_lp_agg rfl rfl 50 _ rfl ud50 rfl inf50 rfl (us' := [_, _, _, _]) rfl rfl ?_)) | refine A_alloc rfl rfl 50 rfl inf50 (cs := [.t (.v (.bool false)), .t (.v (.int .i64 0)), .t (.v (.int .i64 0)), AV.nl]) rfl (.push qL qN) ?_ | refine A_store rfl rfl 50 _ _ rfl inf50 rfl rfl rfl rfl (Nat.le_of_ble_eq_true rfl) qN qN ?_ | (refine kL 2890 rfl ?_; refine A_cl rfl rfl Try.func90 rfl (cP) ?_) | refine AL.nil ?_)) | (with_reducible (first | refine wk0 ?_ | refine wk1 ?_ | refine wk2 ?_ | refine wk4 ?_ | refine wk7 ?_ | refine wkc ?_ | refine wkd ?_)) | refine kct rfl ?_ | with_reducible refine AW.at_region _ ?_)
        all_goals first | (exfalso; omega) | skip
        refine ⟨(q + 1, O), ⟨by dsimp only; omega, by dsimp only; rw [hn]; exact h3⟩, by dsimp only; omega, ?_⟩
        exact Wk.cq 0
    · have e : q = l.length := by omega
      subst e
      subst h3
      repeat' (first | ((with_reducible refine kAL ?_); (first | refine A_as rfl rfl rfl rfl ?_ | refine A_mt rfl rfl rfl rfl ?_ | refine A_cmp rfl rfl (c := false) .lss 3 3 _ _ rfl rfl rfl (by exact congrArg some (decide_eq_false (by (try (dsimp only; fail_if_success done)); omega))) ?_ | refine AL.nil ?_)) | (with_reducible (first | refine wk0 ?_ | refine wk2 ?_ | refine wk4 ?_ | refine wk7 ?_ | refine wk9 ?_ | refine wkb ?_ | refine wkc ?_)) | refine kcf rfl ?_ | with_reducible refine AW.at_region _ ?_)
      all_goals first | (exfalso; omega) | (exact Fin.q Try.results46 (.cons (.tmp rfl) .nil) [])
end Go.Proofs.Ytkichjejadkdgaa
