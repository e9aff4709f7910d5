/- The law ChansAfter of layer 11, walked. -/
import Derived.Test.YtkichjejadkdgaaTLaw11c
namespace Go.Proofs.Ytkichjejadkdgaa
set_option linter.unusedVariables false
set_option linter.unusedSimpArgs false
set_option linter.unnecessarySimpa false
open Go.RowKit
set_option maxHeartbeats 32000000
attribute [local irreducible] AL AW RG Fin C Cd Cio thenQ blockQ retQ
set_option maxRecDepth 100000
theorem doG_recv {g cap h : Int} {M : List DWait} (hn : noneW M h) (x : Int) (B : List Int) : doG ⟨g, cap, true, true, x :: B⟩ h M 2 0 = ⟨⟨g, cap, true, true, B⟩, M, ⟨0, 0, 0, x⟩, []⟩ := by
  unfold doG rdyC recvG; simp [noneW_fir hn, chB]
theorem doG_end {g cap h : Int} {M : List DWait} (hn : noneW M h) : doG ⟨g, cap, true, true, []⟩ h M 2 0 = ⟨⟨g, cap, true, true, []⟩, M, ⟨0, 0, 9, 0⟩, []⟩ := by
  unfold doG rdyC recvG; simp [noneW_fir hn]
theorem doG_sendc {g cap h : Int} {M : List DWait} (B : List Int) : doG ⟨g, cap, true, true, B⟩ h M 1 1 = ⟨⟨g, cap, true, true, B⟩, M, ⟨0, 0, 9, 0⟩, []⟩ := by
  unfold doG rdyC; simp
set_option maxHeartbeats 32000000 in
theorem chansAfter_c (c : DChan) (h : Int) (l : List DWait) (hl : okW l) (hb : c.buf.length ≤ 17592186043904) : Cd Try.prog 11 [aC c, i64 h, .ln (l.map tWt)] (bo true) [] := by
  have hl0 := hl.1
  have onA : ∀ l, okW l → Cd Try.prog 45 [.ln (l.map tWt), i64 h] (.sl 0 0 (onS l h).length) [.row 0 3 1 ((onS l h).map tI)] := fun l hl => by have := onAll_c l h hl; rw [← (onS_b l h).1] at this; exact this
  have c1 := shut_c c h l hl hb (onA l hl)
  obtain ⟨g, cap, used, closed, buf⟩ := c
  dsimp only at hb
  have h1 : (buf.map tI).length = buf.length := List.length_map _
  by_cases hu : used = true ∧ closed = false
  · obtain ⟨rfl, rfl⟩ := hu
    have hn := shut_none l h
    obtain ⟨hMo, hMl⟩ := cuts_ok (onS l h) l hl
    rw [show shutG ⟨g, cap, true, false, buf⟩ h l = ⟨⟨g, cap, true, true, buf⟩, (onS l h).foldl cutW l, 0, (onS l h).map (shT l h)⟩ from rfl] at c1
    unfold sA at c1
    dsimp only at c1
    generalize (onS l h).foldl cutW l = M at *
    generalize (onS l h).map (shT l h) = TT at *
    by_cases h100 : 100 < buf.length
    · refine Cd.enter' Try.func11 rfl Try.ntmps11 rfl ?_
      repeat' (first | ((with_reducible refine kAL ?_); (first | refine A_box rfl rfl 66 _ rfl rfl (.push qL qN) ?_ | refine A_as rfl rfl rfl rfl ?_ | refine A_load_agg rfl rfl 66 _ rfl ud66 rfl inf66 rfl rfl (us' := [_, _, _, _, _]) rfl rfl ?_ | (refine kL 0 rfl ?_; (first | refine A_mt rfl rfl rfl rfl ?_ | refine A_move rfl rfl _ (.inl rfl) (y := .ln _) rfl ?_ | refine A_move rfl rfl _ (.inl rfl) (y := .tup _) rfl ?_)) | (refine kL 1898 rfl ?_; refine A_cl rfl rfl Try.func59 rfl (c1) ?_) | (refine kL 18 rfl ?_; (first | refine A_extract rfl rfl _ 0 rfl rfl rfl ?_ | refine A_extract rfl rfl _ 1 rfl rfl rfl ?_ | refine A_extract rfl rfl _ 2 rfl rfl rfl ?_ | refine A_extract rfl rfl _ 3 rfl rfl rfl ?_)) | refine A_alloc rfl rfl 66 rfl inf66 (cs := [.t (.v (.int .i64 0)), .t (.v (.int .i64 0)), .t (.v (.bool false)), .t (.v (.bool false)), AV.nl]) rfl (.push qL qN) ?_ | refine A_store rfl rfl 66 _ _ rfl inf66 rfl rfl rfl rfl (Nat.le_of_ble_eq_true rfl) qN qN ?_ | refine A_cmp rfl rfl (c := false) .neq 68 68 _ _ rfl rfl rfl (by exact congrArg some (decide_eq_false (by (try (dsimp only; fail_if_success done)); omega))) ?_ | refine A_field rfl rfl 66 _ 4 rfl ud66 rfl inf44 (by decide) 4 rfl rfl ?_ | (refine kL 1866 rfl ?_; refine A_cl rfl rfl Try.func58 rfl (awake11_c) ?_) | refine A_load rfl rfl 44 _ rfl ud44 rfl rfl rfl rfl ?_ | refine A_len rfl rfl 44 _ rfl ud44 rfl ?_ | refine A_cmp rfl rfl (c := true) .gtr 3 3 _ _ rfl rfl rfl (by exact congrArg some (decide_eq_true (by (try (dsimp only; fail_if_success done)); omega))) ?_ | refine AL.nil ?_)) | with_reducible refine AW.at_region _ ?_ | (with_reducible (first | refine wk0 ?_ | refine wk2 ?_ | refine wk3 ?_ | refine wk9 ?_ | refine wkb ?_ | refine wkd ?_)) | refine kct rfl ?_ | refine kcf rfl ?_)
      all_goals first | (exfalso; omega) | (exact Fin.q Try.results11 (.cons (.tmp rfl) .nil) [])
    · have c2 := onR_c M h hMo
      rw [noneW_onK hn _ (Nat.le_refl _)] at c2
      have c3 := shut_c ⟨g, cap, true, true, buf⟩ h M hMo hb (onA M hMo)
      rw [show shutG ⟨g, cap, true, true, buf⟩ h M = ⟨⟨g, cap, true, true, buf⟩, M, 9, []⟩ from rfl] at c3
      have c4 := do_c ⟨g, cap, true, true, buf⟩ h M 1 1 hMo hb
      rw [doG_sendc] at c4
      unfold sA at c3
      unfold gA at c4
      dsimp only [isort, List.foldl_nil, List.map_nil] at c2 c3 c4
      have h4 : ([] : List (List Tr)).length = 0 := rfl
      refine Cd.enter' Try.func11 rfl Try.ntmps11 rfl ?_
      repeat' (first | ((with_reducible refine kAL ?_); (first | refine A_box rfl rfl 66 _ rfl rfl (.push qL qN) ?_ | refine A_as rfl rfl rfl rfl ?_ | refine A_load_agg rfl rfl 66 _ rfl ud66 rfl inf66 rfl rfl (us' := [_, _, _, _, _]) rfl rfl ?_ | (refine kL 0 rfl ?_; (first | refine A_mt rfl rfl rfl rfl ?_ | refine A_move rfl rfl _ (.inl rfl) (y := .ln _) rfl ?_ | refine A_move rfl rfl _ (.inl rfl) (y := .tup _) rfl ?_)) | (refine kL 1898 rfl ?_; (first | refine A_cl rfl rfl Try.func59 rfl (c1) ?_ | refine A_cl rfl rfl Try.func59 rfl (c3) ?_)) | (refine kL 18 rfl ?_; (first | refine A_extract rfl rfl _ 0 rfl rfl rfl ?_ | refine A_extract rfl rfl _ 1 rfl rfl rfl ?_ | refine A_extract rfl rfl _ 2 rfl rfl rfl ?_ | refine A_extract rfl rfl _ 3 rfl rfl rfl ?_)) | refine A_alloc rfl rfl 66 rfl inf66 (cs := [.t (.v (.int .i64 0)), .t (.v (.int .i64 0)), .t (.v (.bool false)), .t (.v (.bool false)), AV.nl]) rfl (.push qL qN) ?_ | refine A_store rfl rfl 66 _ _ rfl inf66 rfl rfl rfl rfl (Nat.le_of_ble_eq_true rfl) qN qN ?_ | refine A_cmp rfl rfl (c := false) .neq 68 68 _ _ rfl rfl rfl (by exact congrArg some (decide_eq_false (by (try (dsimp only; fail_if_success done)); omega))) ?_ | refine A_field rfl rfl 66 _ 4 rfl ud66 rfl inf44 (by decide) 4 rfl rfl ?_ | refine A_pick rfl rfl _ _ _ rfl rfl rfl rfl rfl ?_ | refine A_load rfl rfl 44 _ rfl ud44 rfl rfl rfl rfl ?_ | refine A_len rfl rfl 44 _ rfl ud44 rfl ?_ | (refine kL 105 rfl ?_; (first | refine A_cmp rfl rfl (c := false) .gtr 3 3 _ _ rfl rfl rfl (by exact congrArg some (decide_eq_false (by (try (dsimp only; fail_if_success done)); omega))) ?_ | refine A_cmp rfl rfl (c := false) .neq 3 3 _ _ rfl rfl rfl (by exact congrArg some (decide_eq_false (by (try (dsimp only; fail_if_success done)); omega))) ?_)) | (refine kL 1482 rfl ?_; refine A_cl rfl rfl Try.func46 rfl (c2) ?_) | (refine kL 1642 rfl ?_; refine A_cl rfl rfl Try.func51 rfl (c4) ?_) | refine A_alloc rfl rfl 70 rfl inf70 (cs := [.t (.v (.int .i64 0)), .t (.v (.int .i64 0)), .t (.v (.int .i64 0)), .t (.v (.int .i64 0))]) rfl (.push qL qN) ?_ | refine A_store rfl rfl 70 _ _ rfl inf70 rfl rfl rfl rfl (Nat.le_of_ble_eq_true rfl) qN qN ?_ | refine A_field rfl rfl 70 _ 2 rfl ud70 rfl inf68 (by decide) 2 rfl rfl ?_ | refine A_load rfl rfl 68 _ rfl ud68 rfl rfl rfl rfl ?_ | refine AL.nil ?_)) | with_reducible refine AW.at_region _ ?_ | (with_reducible (first | refine wk0 ?_ | refine wk1 ?_ | refine wk2 ?_ | refine wkd ?_)) | refine kcf rfl ?_)
      all_goals first | (exfalso; omega) | skip
      refine AW.loopP (fun (x : Nat × List Int) => x.1 ≤ buf.length ∧ x.2 = buf.drop x.1) (fun (x : Nat × List Int) => (pu (pu (pu (pu (pu (pu (pu (pu (fun _ => .any) 1 (i64 h)) 3 (.ptr 0 0)) 7 (.ptr 1 0)) 8 (.t (.lst (M.map tWt)))) 17 (.ptr 2 0)) 82 (.ln (buf.map tI))) 83 (i64 (buf.map tI).length)) 84 (i64 x.1))) (fun (x : Nat × List Int) => [.box 66 [i64 g, i64 cap, bo true, bo false, .ln (buf.map tI)], .box 66 [i64 g, i64 cap, bo true, bo true, .t (.lst (x.2.map tI))], .box 70 [i64 0, i64 0, i64 9, i64 0]]) (fun (x : Nat × List Int) => buf.length - x.1) ((0, buf)) ?_ ?_ ?_
      · exact ⟨Nat.zero_le _, rfl⟩
      · exact Wk.cq3 [0, 1, 4]
      · rintro ⟨i, B⟩ ⟨h2, h3⟩
        dsimp only at h2 h3 ⊢
        have hBl : B.length = buf.length - i := by rw [h3, List.length_drop]
        by_cases hi : i < buf.length
        · obtain ⟨x, hx⟩ : ∃ x, buf[i]? = some x := ⟨_, List.getElem?_eq_getElem hi⟩
          obtain ⟨B', hB'⟩ : ∃ B', buf.drop (i + 1) = B' := ⟨_, rfl⟩
          have hB : B = x :: B' := by rw [h3, drop_next hx, hB']
          have c5 := do_c ⟨g, cap, true, true, B⟩ h M 2 0 hMo (by dsimp only; omega)
          rw [hB] at c5
          rw [doG_recv hn] at c5
          unfold gA at c5
          dsimp only [List.map_nil] at c5
          rw [hB]
          repeat' (first | ((with_reducible refine kAL ?_); (first | refine A_as rfl rfl rfl rfl ?_ | refine A_load_agg rfl rfl 66 _ rfl ud66 rfl inf66 rfl rfl (us' := [_, _, _, _, _]) rfl rfl ?_ | (refine kL 0 rfl ?_; (first | refine A_mt rfl rfl rfl rfl ?_ | refine A_move rfl rfl _ (.inl rfl) (y := .tup _) rfl ?_)) | (refine kL 18 rfl ?_; (first | refine A_extract rfl rfl _ 0 rfl rfl rfl ?_ | refine A_extract rfl rfl _ 1 rfl rfl rfl ?_ | refine A_extract rfl rfl _ 2 rfl rfl rfl ?_ | refine A_extract rfl rfl _ 3 rfl rfl rfl ?_)) | refine A_alloc rfl rfl 66 rfl inf66 (cs := [.t (.v (.int .i64 0)), .t (.v (.int .i64 0)), .t (.v (.bool false)), .t (.v (.bool false)), AV.nl]) rfl (.push qL qN) ?_ | refine A_store rfl rfl 66 _ _ rfl inf66 rfl rfl rfl rfl (Nat.le_of_ble_eq_true rfl) qN qN ?_ | refine A_cmp rfl rfl (c := false) .neq 68 68 _ _ rfl rfl rfl (by exact congrArg some (decide_eq_false (by (try (dsimp only; fail_if_success done)); omega))) ?_ | refine A_pick rfl rfl _ _ _ rfl rfl rfl rfl rfl ?_ | refine A_len rfl rfl 71 _ rfl ud71 rfl ?_ | (refine kL 105 rfl ?_; (first | refine A_cmp rfl rfl (c := false) .neq 3 3 _ _ rfl rfl rfl (by exact congrArg some (decide_eq_false (by (try (dsimp only; fail_if_success done)); omega))) ?_ | refine A_cmp rfl rfl (c := true) .lss 3 3 _ _ rfl rfl rfl (by exact congrArg some (decide_eq_true (by (try (dsimp only; fail_if_success done)); omega))) ?_ | refine A_add rfl rfl 3 3 _ _ rfl rfl rfl (by exact wi) ?_)) | (refine kL 1642 rfl ?_; refine A_cl rfl rfl Try.func51 rfl (c5) ?_) | refine A_alloc rfl rfl 70 rfl inf70 (cs := [.t (.v (.int .i64 0)), .t (.v (.int .i64 0)), .t (.v (.int .i64 0)), .t (.v (.int .i64 0))]) rfl (.push qL qN) ?_ | refine A_store rfl rfl 70 _ _ rfl inf70 rfl rfl rfl rfl (Nat.le_of_ble_eq_true rfl) qN qN ?_ | (refine kL 2244 rfl ?_; (first | refine A_field rfl rfl 70 _ 2 rfl ud70 rfl inf68 (by decide) 2 rfl rfl ?_ | refine A_field rfl rfl 70 _ 3 rfl ud70 rfl inf3 (by decide) 3 rfl rfl ?_)) | refine A_load rfl rfl 68 _ rfl ud68 rfl rfl rfl rfl ?_ | (refine kL 1414 rfl ?_; refine A_idx rfl rfl 44 _ _ rfl ud44 inf3 (by decide) (by exact .inl rfl) rfl (by omega) _ (by with_reducible exact Int.toNat_natCast _) (by exact map_get (by assumption)) rfl (cs' := [_]) rfl ?_) | (refine kL 98 rfl ?_; (first | refine A_load rfl rfl 3 _ rfl ud3 rfl rfl rfl rfl ?_ | refine A_load_lp rfl rfl 3 _ rfl ud3 rfl rfl rfl ?_)) | refine AL.nil ?_)) | with_reducible refine AW.at_region _ ?_ | (with_reducible (first | refine wk0 ?_ | refine wk1 ?_ | refine wk2 ?_ | refine wk5 ?_ | refine wkd ?_)) | refine kct rfl ?_ | refine kcf rfl ?_)
          all_goals first | (exfalso; omega) | skip
          refine ⟨(i + 1, B'), ⟨by dsimp only; omega, ?_⟩, by dsimp only; omega, ?_⟩
          · exact hB'.symm
          · exact Wk.cq 3
        · have e : i = buf.length := by omega
          subst e
          rw [List.drop_length] at h3
          subst h3
          have c6 := do_c ⟨g, cap, true, true, []⟩ h M 2 0 hMo (by simp)
          rw [doG_end hn] at c6
          have c7 := idle_c ⟨g, cap, true, true, []⟩ h M hMo
          rw [noneW_onS hn] at c7
          unfold gA at c6
          dsimp only [List.map_nil] at c6 c7
          simp only [decide_true, Bool.and_self] at c7
          repeat' (first | ((with_reducible refine kAL ?_); (first | refine A_as rfl rfl rfl rfl ?_ | refine A_load_agg rfl rfl 66 _ rfl ud66 rfl inf66 rfl rfl (us' := [_, _, _, _, _]) rfl rfl ?_ | (refine kL 0 rfl ?_; (first | refine A_mt rfl rfl rfl rfl ?_ | refine A_move rfl rfl _ (.inl rfl) (y := .tup _) rfl ?_)) | (refine kL 18 rfl ?_; (first | refine A_extract rfl rfl _ 0 rfl rfl rfl ?_ | refine A_extract rfl rfl _ 1 rfl rfl rfl ?_ | refine A_extract rfl rfl _ 2 rfl rfl rfl ?_ | refine A_extract rfl rfl _ 3 rfl rfl rfl ?_)) | refine A_cmp rfl rfl (c := true) .eql 68 68 _ _ rfl rfl rfl (by exact congrArg some (decide_eq_true (by (try (dsimp only; fail_if_success done)); omega))) ?_ | refine A_pick rfl rfl _ _ _ rfl rfl rfl rfl rfl ?_ | (refine kL 1866 rfl ?_; refine A_cl rfl rfl Try.func58 rfl (awake11_c) ?_) | refine A_cmp rfl rfl (c := false) .lss 3 3 _ _ rfl rfl rfl (by exact congrArg some (decide_eq_false (by (try (dsimp only; fail_if_success done)); omega))) ?_ | (refine kL 1642 rfl ?_; refine A_cl rfl rfl Try.func51 rfl (c6) ?_) | refine A_store rfl rfl 70 _ _ rfl inf70 rfl rfl rfl rfl (Nat.le_of_ble_eq_true rfl) qN qN ?_ | refine A_field rfl rfl 70 _ 2 rfl ud70 rfl inf68 (by decide) 2 rfl rfl ?_ | refine A_load rfl rfl 68 _ rfl ud68 rfl rfl rfl rfl ?_ | (refine kL 1930 rfl ?_; refine A_cl rfl rfl Try.func60 rfl (c7) ?_) | refine AL.nil ?_)) | with_reducible refine AW.at_region _ ?_ | (with_reducible (first | refine wk0 ?_ | refine wk2 ?_ | refine wk4 ?_ | refine wk7 ?_ | refine wk9 ?_ | refine wkb ?_ | refine wkc ?_)) | refine kcf rfl ?_)
          all_goals first | (exfalso; omega) | (exact Fin.q Try.results11 (.cons (.tmp rfl) .nil) [])
  · have e : (used && !closed) = false := by cases used <;> cases closed <;> simp_all
    rw [show shutG ⟨g, cap, used, closed, buf⟩ h l = ⟨⟨g, cap, used, closed, buf⟩, l, 9, []⟩ by unfold shutG; dsimp only; rw [e]; rfl] at c1
    unfold sA at c1
    dsimp only [List.map_nil] at c1
    cases used <;> cases closed
    all_goals first | (exact absurd ⟨rfl, rfl⟩ hu) | skip
    all_goals
      refine Cd.enter' Try.func11 rfl Try.ntmps11 rfl ?_
      repeat' (first | ((with_reducible refine kAL ?_); (first | refine A_box rfl rfl 66 _ rfl rfl (.push qL qN) ?_ | refine A_as rfl rfl rfl rfl ?_ | refine A_load_agg rfl rfl 66 _ rfl ud66 rfl inf66 rfl rfl (us' := [_, _, _, _, _]) rfl rfl ?_ | (refine kL 0 rfl ?_; (first | refine A_mt rfl rfl rfl rfl ?_ | refine A_move rfl rfl _ (.inl rfl) (y := .ln _) rfl ?_ | refine A_move rfl rfl _ (.inl rfl) (y := .tup _) rfl ?_)) | (refine kL 1898 rfl ?_; refine A_cl rfl rfl Try.func59 rfl (c1) ?_) | (refine kL 18 rfl ?_; (first | refine A_extract rfl rfl _ 0 rfl rfl rfl ?_ | refine A_extract rfl rfl _ 1 rfl rfl rfl ?_ | refine A_extract rfl rfl _ 2 rfl rfl rfl ?_ | refine A_extract rfl rfl _ 3 rfl rfl rfl ?_)) | refine A_alloc rfl rfl 66 rfl inf66 (cs := [.t (.v (.int .i64 0)), .t (.v (.int .i64 0)), .t (.v (.bool false)), .t (.v (.bool false)), AV.nl]) rfl (.push qL qN) ?_ | refine A_store rfl rfl 66 _ _ rfl inf66 rfl rfl rfl rfl (Nat.le_of_ble_eq_true rfl) qN qN ?_ | refine A_cmp rfl rfl (c := true) .neq 68 68 _ _ rfl rfl rfl (by exact congrArg some (decide_eq_true (by (try (dsimp only; fail_if_success done)); omega))) ?_ | (refine kL 2116 rfl ?_; (first | refine A_field rfl rfl 66 _ 2 rfl ud66 rfl inf4 (by decide) 2 rfl rfl ?_ | refine A_field rfl rfl 66 _ 3 rfl ud66 rfl inf4 (by decide) 3 rfl rfl ?_)) | refine A_load rfl rfl 4 _ rfl ud4 rfl rfl rfl rfl ?_ | refine A_not rfl rfl _ _ rfl rfl ?_ | refine A_pick rfl rfl _ _ _ rfl rfl rfl rfl rfl ?_ | (refine kL 1866 rfl ?_; refine A_cl rfl rfl Try.func58 rfl (awake11_c) ?_) | refine AL.nil ?_ | refine AL.skip rfl rfl ?_)) | with_reducible refine AW.at_region _ ?_ | (with_reducible (first | refine wk0 ?_ | refine wk2 ?_ | refine wk3 ?_ | refine wk9 ?_ | refine wkb ?_)) | refine kct rfl ?_)
      all_goals first | (exfalso; omega) | (exact Fin.q Try.results11 (.cons (.tmp rfl) .nil) [])
end Go.Proofs.Ytkichjejadkdgaa
