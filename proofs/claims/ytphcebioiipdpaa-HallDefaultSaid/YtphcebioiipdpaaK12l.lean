/- Joined: XTLaw12b. -/
import Derived.Test.YtphcebioiipdpaaK12k
/- The laws of layer 12: run, HallSelects. -/
namespace Go.Proofs.Ytphcebioiipdpaa
set_option linter.unusedVariables false
set_option linter.unusedSimpArgs false
set_option linter.unnecessarySimpa false
open Go.RowKit
set_option maxHeartbeats 32000000
attribute [local irreducible] AL AW RG Fin C Cd Cio thenQ blockQ retQ
set_option maxRecDepth 100000
theorem mayGo_yes {h : DHall} {j : Nat} {w : DWait} (hw : h.waits[j]? = some w) : mayGo h j = !w.on := by
  have := get_lt hw
  unfold mayGo; rw [Int.toNat_natCast, getD_of hw, decide_eq_true (by omega)]; simp
theorem mayGo_no {h : DHall} {t : Int} (ht : ¬ (0 ≤ t ∧ t < (h.waits.length : Int))) : mayGo h t = false := by unfold mayGo; rw [decide_eq_false ht]; rfl
theorem c12_n : plN c12 = 2 ∧ thN c12 = 2 := by decide
set_option maxHeartbeats 16000000 in
theorem run12_c (l : List DMove) (hl : l.length ≤ 60) (hs : ∀ x ∈ l, sMv x) (hq : ∀ x ∈ l, x.req.cases.length ≤ 5864062014805) : Cd Try.prog 17 [fCf c12, .ln (l.map tMv)] (.agg [i64 (runH c12 l l.length).ticket, .t (.lst ((runH c12 l l.length).chans.map tCh)), .t (.lst ((runH c12 l l.length).waits.map tWt)), .t (.lst ((runH c12 l l.length).done.map tR))]) [] := by
  have h1 : (l.map tMv).length = l.length := List.length_map _
  have c1 := stF_c c12 (by decide)
  change Cd _ _ _ (.agg [i64 (runH c12 l 0).ticket, .t (.lst ((runH c12 l 0).chans.map tCh)), .t (.lst ((runH c12 l 0).waits.map tWt)), .t (.lst ((runH c12 l 0).done.map tR))]) _ at c1
  have hB := runH_bd c12 l
  have hN := @runH_next c12 l
  rw [c12_n.1, c12_n.2] at hB
  have hA := apF_c c12
  generalize runH c12 l = H at *
  generalize c12 = c at *
  dsimp only [fCf, aCf, aHl, aRq] at *
  refine Cd.enter' Try.func17 rfl Try.ntmps17 rfl ?_
  repeat' (first | ((with_reducible refine kAL ?_); (first | refine A_box rfl rfl 24 _ rfl rfl (.push qL qN) ?_ | refine A_alloc rfl rfl 29 rfl inf29 (cs := [.t (.v (.int .i64 0)), AV.nl, AV.nl, AV.nl]) rfl (.push qL qN) ?_ | refine A_load_agg rfl rfl 24 _ rfl ud24 rfl inf24 rfl rfl (us' := [_, _, _, _, _, _, _, _, _, _, _]) rfl rfl ?_ | (refine kL 426 rfl ?_; refine A_cl rfl rfl Try.func13 rfl (c1) ?_) | refine A_store rfl rfl 29 _ _ rfl inf29 rfl rfl rfl rfl (Nat.le_of_ble_eq_true rfl) qN qN ?_ | (refine kL 0 rfl ?_; (first | refine A_mt rfl rfl rfl rfl ?_ | refine A_move rfl rfl _ (.inl rfl) (y := .ln _) rfl ?_)) | refine A_len rfl rfl 39 _ rfl ud39 rfl ?_ | refine AL.nil ?_)) | with_reducible refine AW.at_region _ ?_ | (with_reducible (first | refine wk0 ?_ | refine wk1 ?_ | refine wk2 ?_)))
  all_goals first | (exfalso; omega) | skip
  refine AW.loopP (fun (q : Nat) => q ≤ l.length) (fun (q : Nat) => (pu (pu (pu (pu (pu (pu (fun _ => .any) 2 (.ptr 0 0)) 4 (.ptr 1 0)) 5 (.ptr 2 0)) 10 (.ln (l.map tMv))) 11 (i64 (l.map tMv).length)) 12 (i64 q))) (fun (q : Nat) => [.box 24 [i64 c.kind, i64 c.threads, i64 c.chans, i64 c.cap, i64 c.nodes, i64 c.retire, i64 c.patience, i64 c.tags, i64 c.seqs, i64 c.gens, .t (.lst (c.start.map tI))], .box 29 [i64 0, .nl, .nl, .nl], .box 29 [i64 (H q).ticket, .t (.lst ((H q).chans.map tCh)), .t (.lst ((H q).waits.map tWt)), .t (.lst ((H q).done.map tR))]]) (fun (q : Nat) => l.length - q) (0) ?_ ?_ ?_
  · exact Nat.zero_le _
  · exact Wk.cq 3
  · intro q hq0
    obtain ⟨bd, ln⟩ := hB q
    have hwl : ((H q).waits.map tWt).length = 2 := by rw [List.length_map, ln.w]
    have hwl2 := ln.w
    by_cases hi : q < l.length
    · obtain ⟨x, hx⟩ : ∃ x, l[q]? = some x := ⟨_, List.getElem?_eq_getElem hi⟩
      have hxm := List.mem_of_getElem? hx
      have hn := hN hx
      have cA := hA (H q) x.thread ((q : Int) + 1) x.req (bd.okQ (hs x hxm).2 (hq x hxm)) (bd.ok ln (by omega) (by omega) (by omega))
      clear hA hB hN
      obtain ⟨th, ⟨qk, qa, qv, qd, cs⟩⟩ := x
      dsimp only at hn cA
      by_cases ht : 0 ≤ th ∧ th < ((H q).waits.length : Int)
      · obtain ⟨j, rfl⟩ : ∃ j : Nat, th = j := ⟨th.toNat, by omega⟩
        obtain ⟨⟨on, tk, sq, wc⟩, hw⟩ : ∃ w, (H q).waits[j]? = some w := ⟨_, List.getElem?_eq_getElem (by omega)⟩
        rw [mayGo_yes hw] at hn
        cases on
        · rw [if_pos (by rfl)] at hn
          rw [← hn] at cA
          generalize hG : H (q + 1) = G at *
          generalize H q = K at *
          repeat' (first | ((with_reducible refine kAL ?_); (first | refine A_load_agg rfl rfl 24 _ rfl ud24 rfl inf24 rfl rfl (us' := [_, _, _, _, _, _, _, _, _, _, _]) rfl rfl ?_ | refine A_store rfl rfl 29 _ _ rfl inf29 rfl rfl rfl rfl (Nat.le_of_ble_eq_true rfl) qN qN ?_ | refine A_mt rfl rfl rfl rfl ?_ | refine A_len rfl rfl 26 _ rfl ud26 rfl ?_ | (refine kL 105 rfl ?_; (first | refine A_cmp (d := 13) rfl rfl (c := true) .lss 3 3 _ _ rfl rfl rfl (by exact congrArg some (decide_eq_true (by (try (dsimp only; fail_if_success done)); omega))) ?_ | refine A_cmp (d := 19) rfl rfl (c := true) .geq 3 3 _ _ rfl rfl rfl (by exact congrArg some (decide_eq_true (by (try (dsimp only; fail_if_success done)); omega))) ?_ | refine A_cmp (d := 26) rfl rfl (c := true) .lss 3 3 _ _ rfl rfl rfl (by exact congrArg some (decide_eq_true (by (try (dsimp only; fail_if_success done)); omega))) ?_ | refine A_add rfl rfl 3 3 _ _ rfl rfl rfl (by exact wi) ?_)) | (refine kL 1254 rfl ?_; refine A_idx rfl rfl 39 _ _ rfl ud39 inf82 (by decide) (by exact .inl rfl) rfl (by omega) _ (by with_reducible exact Int.toNat_natCast _) (by exact map_get (by assumption)) rfl (cs' := [_, _, _, _, _, _]) rfl ?_) | refine A_load_lp_agg rfl rfl 82 _ rfl ud82 rfl inf82 rfl (us' := [_, _, _, _, _, _]) rfl rfl ?_ | refine A_alloc rfl rfl 82 rfl inf82 (cs := [.t (.v (.int .i64 0)), .t (.v (.int .i64 0)), .t (.v (.int .i64 0)), .t (.v (.int .i64 0)), .t (.v (.bool false)), AV.nl]) rfl (.push qL qN) ?_ | refine A_as rfl rfl rfl rfl ?_ | refine A_store rfl rfl 82 _ _ rfl inf82 rfl rfl rfl rfl (Nat.le_of_ble_eq_true rfl) qN qN ?_ | (refine kL 2628 rfl ?_; (first | refine A_field rfl rfl 82 _ 0 rfl ud82 rfl inf3 (by decide) 0 rfl rfl ?_ | refine A_field rfl rfl 82 _ 1 rfl ud82 rfl inf32 (by decide) 1 rfl rfl ?_)) | refine A_load rfl rfl 3 _ rfl ud3 rfl rfl rfl rfl ?_ | refine A_field rfl rfl 29 _ 2 rfl ud29 rfl inf26 (by decide) 2 rfl rfl ?_ | refine A_load rfl rfl 26 _ rfl ud26 rfl rfl rfl rfl ?_ | (refine kL 19 rfl ?_; refine A_pkt rfl rfl _ _ _ rfl rfl rfl ?_) | (refine kL 838 rfl ?_; refine A_idx rfl rfl 26 _ _ rfl ud26 inf43 (by decide) (by exact .inr rfl) rfl (by omega) _ (by with_reducible exact Int.toNat_natCast _) (by exact map_get (by assumption)) rfl (cs' := [_, _, _, _]) rfl ?_) | refine A_field rfl rfl 43 _ 0 rfl ud43 rfl inf4 (by decide) 0 rfl rfl ?_ | refine A_load_lp rfl rfl 4 _ rfl ud4 rfl rfl rfl ?_ | refine A_not rfl rfl _ _ rfl rfl ?_ | refine A_load_agg rfl rfl 29 _ rfl ud29 rfl inf29 rfl rfl (us' := [_, _, _, _]) rfl rfl ?_ | refine A_load_agg rfl rfl 32 _ rfl ud32 rfl inf32 rfl rfl (us' := [_, _, _, _, _]) rfl rfl ?_ | (refine kL 330 rfl ?_; refine A_cl rfl rfl Try.func10 rfl (cA) ?_) | refine AL.nil ?_)) | with_reducible refine AW.at_region _ ?_ | (with_reducible (first | refine wk0 ?_ | refine wk1 ?_ | refine wk2 ?_ | refine wk5 ?_ | refine wkd ?_)) | refine kct rfl ?_)
          all_goals first | (exfalso; omega) | skip
          refine ⟨q + 1, by omega, by omega, ?_⟩
          rw [hG]
          exact Wk.cq 3
        · rw [if_neg (by simp)] at hn
          clear cA
          generalize hG : H (q + 1) = G at *
          generalize H q = K at *
          repeat' (first | ((with_reducible refine kAL ?_); (first | refine A_mt rfl rfl rfl rfl ?_ | refine A_len rfl rfl 26 _ rfl ud26 rfl ?_ | (refine kL 105 rfl ?_; (first | refine A_cmp (d := 13) rfl rfl (c := true) .lss 3 3 _ _ rfl rfl rfl (by exact congrArg some (decide_eq_true (by (try (dsimp only; fail_if_success done)); omega))) ?_ | refine A_cmp (d := 19) rfl rfl (c := true) .geq 3 3 _ _ rfl rfl rfl (by exact congrArg some (decide_eq_true (by (try (dsimp only; fail_if_success done)); omega))) ?_ | refine A_cmp (d := 26) rfl rfl (c := true) .lss 3 3 _ _ rfl rfl rfl (by exact congrArg some (decide_eq_true (by (try (dsimp only; fail_if_success done)); omega))) ?_ | refine A_add rfl rfl 3 3 _ _ rfl rfl rfl (by exact wi) ?_)) | (refine kL 1254 rfl ?_; refine A_idx rfl rfl 39 _ _ rfl ud39 inf82 (by decide) (by exact .inl rfl) rfl (by omega) _ (by with_reducible exact Int.toNat_natCast _) (by exact map_get (by assumption)) rfl (cs' := [_, _, _, _, _, _]) rfl ?_) | refine A_load_lp_agg rfl rfl 82 _ rfl ud82 rfl inf82 rfl (us' := [_, _, _, _, _, _]) rfl rfl ?_ | refine A_alloc rfl rfl 82 rfl inf82 (cs := [.t (.v (.int .i64 0)), .t (.v (.int .i64 0)), .t (.v (.int .i64 0)), .t (.v (.int .i64 0)), .t (.v (.bool false)), AV.nl]) rfl (.push qL qN) ?_ | refine A_as rfl rfl rfl rfl ?_ | refine A_store rfl rfl 82 _ _ rfl inf82 rfl rfl rfl rfl (Nat.le_of_ble_eq_true rfl) qN qN ?_ | refine A_field rfl rfl 82 _ 0 rfl ud82 rfl inf3 (by decide) 0 rfl rfl ?_ | refine A_load rfl rfl 3 _ rfl ud3 rfl rfl rfl rfl ?_ | refine A_field rfl rfl 29 _ 2 rfl ud29 rfl inf26 (by decide) 2 rfl rfl ?_ | refine A_load rfl rfl 26 _ rfl ud26 rfl rfl rfl rfl ?_ | (refine kL 19 rfl ?_; refine A_pkt rfl rfl _ _ _ rfl rfl rfl ?_) | (refine kL 838 rfl ?_; refine A_idx rfl rfl 26 _ _ rfl ud26 inf43 (by decide) (by exact .inr rfl) rfl (by omega) _ (by with_reducible exact Int.toNat_natCast _) (by exact map_get (by assumption)) rfl (cs' := [_, _, _, _]) rfl ?_) | refine A_field rfl rfl 43 _ 0 rfl ud43 rfl inf4 (by decide) 0 rfl rfl ?_ | refine A_load_lp rfl rfl 4 _ rfl ud4 rfl rfl rfl ?_ | refine A_not rfl rfl _ _ rfl rfl ?_ | refine AL.nil ?_)) | with_reducible refine AW.at_region _ ?_ | (with_reducible (first | refine wk0 ?_ | refine wk1 ?_ | refine wk2 ?_ | refine wk5 ?_ | refine wkd ?_)) | refine kct rfl ?_ | refine kcf rfl ?_)
          all_goals first | (exfalso; omega) | skip
          refine ⟨q + 1, by omega, by omega, ?_⟩
          rw [hG, hn]
          exact Wk.cq 3
      · rw [mayGo_no ht, if_neg (by simp)] at hn
        clear cA
        rw [hwl2] at ht
        generalize hG : H (q + 1) = G at *
        generalize H q = K at *
        by_cases h0 : 0 ≤ th
        all_goals
          repeat' (first | ((with_reducible refine kAL ?_); (first | refine A_mt rfl rfl rfl rfl ?_ | refine A_len rfl rfl 26 _ rfl ud26 rfl ?_ | (refine kL 105 rfl ?_; (first | refine A_cmp (d := 13) rfl rfl (c := true) .lss 3 3 _ _ rfl rfl rfl (by exact congrArg some (decide_eq_true (by (try (dsimp only; fail_if_success done)); omega))) ?_ | refine A_cmp (d := 19) rfl rfl (c := true) .geq 3 3 _ _ rfl rfl rfl (by exact congrArg some (decide_eq_true (by (try (dsimp only; fail_if_success done)); omega))) ?_ | refine A_cmp (d := 19) rfl rfl (c := false) .geq 3 3 _ _ rfl rfl rfl (by exact congrArg some (decide_eq_false (by (try (dsimp only; fail_if_success done)); omega))) ?_ | refine A_cmp (d := 26) rfl rfl (c := false) .lss 3 3 _ _ rfl rfl rfl (by exact congrArg some (decide_eq_false (by (try (dsimp only; fail_if_success done)); omega))) ?_ | refine A_add rfl rfl 3 3 _ _ rfl rfl rfl (by first | exact wi | rfl) ?_)) | (refine kL 1254 rfl ?_; refine A_idx rfl rfl 39 _ _ rfl ud39 inf82 (by decide) (by exact .inl rfl) rfl (by omega) _ (by with_reducible exact Int.toNat_natCast _) (by exact map_get (by assumption)) rfl (cs' := [_, _, _, _, _, _]) rfl ?_) | refine A_load_lp_agg rfl rfl 82 _ rfl ud82 rfl inf82 rfl (us' := [_, _, _, _, _, _]) rfl rfl ?_ | refine A_alloc rfl rfl 82 rfl inf82 (cs := [.t (.v (.int .i64 0)), .t (.v (.int .i64 0)), .t (.v (.int .i64 0)), .t (.v (.int .i64 0)), .t (.v (.bool false)), AV.nl]) rfl (.push qL qN) ?_ | refine A_as rfl rfl rfl rfl ?_ | refine A_store rfl rfl 82 _ _ rfl inf82 rfl rfl rfl rfl (Nat.le_of_ble_eq_true rfl) qN qN ?_ | refine A_field rfl rfl 82 _ 0 rfl ud82 rfl inf3 (by decide) 0 rfl rfl ?_ | refine A_load rfl rfl 3 _ rfl ud3 rfl rfl rfl rfl ?_ | refine A_field rfl rfl 29 _ 2 rfl ud29 rfl inf26 (by decide) 2 rfl rfl ?_ | refine A_load rfl rfl 26 _ rfl ud26 rfl rfl rfl rfl ?_ | (refine kL 19 rfl ?_; (first | refine A_pkt rfl rfl _ _ _ rfl rfl rfl ?_ | refine A_pkf rfl rfl _ _ _ rfl rfl rfl ?_)) | refine AL.nil ?_ | refine AL.skip rfl rfl ?_)) | with_reducible refine AW.at_region _ ?_ | (with_reducible (first | refine wk0 ?_ | refine wk1 ?_ | refine wk2 ?_ | refine wk5 ?_ | refine wkd ?_)) | refine kct rfl ?_ | refine kcf rfl ?_)
          all_goals first | (exfalso; omega) | skip
          refine ⟨q + 1, by omega, by omega, ?_⟩
          rw [hG, hn]
          exact Wk.cq 3
    · have e : q = l.length := by omega
      subst e
      repeat' (first | ((with_reducible refine kAL ?_); (first | refine A_store rfl rfl 29 _ _ rfl inf29 rfl rfl rfl rfl (Nat.le_of_ble_eq_true rfl) qN qN ?_ | refine A_cmp (d := 13) rfl rfl (c := false) .lss 3 3 _ _ rfl rfl rfl (by exact congrArg some (decide_eq_false (by (try (dsimp only; fail_if_success done)); omega))) ?_ | refine A_load_agg rfl rfl 29 _ rfl ud29 rfl inf29 rfl rfl (us' := [_, _, _, _]) rfl rfl ?_ | refine AL.nil ?_)) | with_reducible refine AW.at_region _ ?_ | (with_reducible (first | refine wk0 ?_ | refine wk2 ?_ | refine wk4 ?_ | refine wk7 ?_ | refine wk9 ?_ | refine wkb ?_ | refine wkc ?_)) | refine kcf rfl ?_)
      all_goals first | (exfalso; omega) | (exact Fin.q Try.results17 (.cons (.agg rfl rfl ud29 rfl inf29 (us := [_, _, _, _]) rfl rfl) .nil) [])
end Go.Proofs.Ytphcebioiipdpaa

