/- Halls, and cells, of words: the reference's hall, Read, ReadCells. -/
import Derived.Test.YtijaphlmomcbfaaTReadX
import Derived.Test.YtijaphlmomcbfaaTFitsR
namespace Go.Proofs.Ytijaphlmomcbfaa
set_option linter.unusedVariables false
set_option linter.unusedSimpArgs false
set_option linter.unnecessarySimpa false
open Go.RowKit
set_option maxHeartbeats 32000000
attribute [local irreducible] AL AW RG Fin C Cd Cio thenQ blockQ retQ
set_option maxRecDepth 100000
set_option maxHeartbeats 4000000 in
theorem sameU_c (a b : List Int) (ha : a.length ≤ 1152921504606846976) : Cd Try.prog 107 [.ln (a.map tU), .ln (b.map tU)] (bo (decide (a = b))) [] := by
  have h1 : (a.map tU).length = a.length := List.length_map _
  have h2 : (b.map tU).length = b.length := List.length_map _
  refine Cd.enter' Try.func107 rfl Try.ntmps107 rfl ?_
  repeat' (first | ((with_reducible refine kAL ?_); (first | refine A_as rfl rfl rfl rfl ?_ | (refine kL 0 rfl ?_; (first | refine A_mt rfl rfl rfl rfl ?_ | refine A_move rfl rfl _ (.inl rfl) (y := .ln _) rfl ?_)) | refine A_len rfl rfl 37 _ rfl ud37 rfl ?_ | refine A_cmp (d := 10) rfl rfl .neq 3 3 _ _ rfl rfl rfl rfl ?_ | refine AL.nil ?_)) | (with_reducible (first | refine wk0 ?_ | refine wk1 ?_ | refine wk2 ?_ | refine wk3 ?_ | refine wk9 ?_ | refine wkb ?_ | refine wkd ?_)) | refine kcp rfl (fun hc => ?_) (fun hc => ?_) | with_reducible refine AW.at_region _ ?_)
  · refine Fin.q Try.results107 (.cons (.tmp rfl) .nil) [] (hr := (.t ?_))
    have : a ≠ b := by rintro rfl; exact hc rfl
    simp [this]
  · refine AW.loopP (fun (i : Nat) => ∀ j, j < i → a.getD j 0 = b.getD j 0) (fun (i : Nat) => (pu (pu (pu (pu (pu (fun _ => .any) 0 (.ln (a.map tU))) 1 (.ln (b.map tU))) 4 (.t (.v (.bool false)))) 12 (i64 (a.map tU).length)) 13 (i64 i))) (fun (i : Nat) => []) (fun (i : Nat) => a.length + 1 - i) (0) ?_ ?_ ?_
    · intro j hj; omega
    · exact Wk.cq 0
    · intro i hi
      repeat' (first | ((with_reducible refine kAL ?_); (first | refine A_as rfl rfl rfl rfl ?_ | refine A_mt rfl rfl rfl rfl ?_ | (refine kL 105 rfl ?_; (first | refine A_add rfl rfl 3 3 _ _ rfl rfl rfl (by first | exact wi | rfl) ?_ | refine A_cmp (d := 14) rfl rfl .lss 3 3 _ _ rfl rfl rfl rfl ?_)) | refine AL.nil ?_)) | ((with_reducible refine kRG ?_); (first | (refine kR 0 rfl ?_; (first | refine R_mt rfl rfl rfl rfl ?_ | refine R_move rfl rfl _ (.inl rfl) (y := .ln _) rfl ?_)) | (refine kR 1190 rfl ?_; refine R_idx rfl rfl 37 _ _ rfl ud37 inf84 (by decide) (by exact .inl rfl) rfl (by omega) _ (by with_reducible exact Int.toNat_natCast _) (by exact map_get (get_D (x := 0) (by omega))) rfl (cs' := [_]) rfl ?_) | refine R_load_lp rfl rfl 84 _ rfl ud84 rfl rfl rfl ?_ | refine R_cmp (d := 24) rfl rfl .neq 84 84 _ _ rfl rfl rfl rfl ?_ | refine RG.nil ⟨by kernel_rfl, ?_⟩)) | (with_reducible (first | refine wk0 ?_ | refine wk1 ?_ | refine wk2 ?_ | refine wk3 ?_ | refine wk4 ?_ | refine wk5 ?_ | refine wk6 ?_ | refine wk7 ?_ | refine wk9 ?_ | refine wkb ?_ | refine wkc ?_ | refine wkd ?_)) | refine kcp rfl (fun hc => ?_) (fun hc => ?_) | with_reducible refine AW.at_region _ ?_ | refine AW.at_draw 6 mixed 0 [[], [], [0, 1], [0, 1, 2], [], [], [4, 5], [4, 5, 6], [0, 1, 2, 3, 4, 5, 6, 7]] qR ?_)
      · refine Fin.q Try.results107 (.cons (.tmp rfl) .nil) [] (hr := (.t ?_))
        have : a ≠ b := by rintro rfl; exact hc rfl
        simp [this]
      · refine ⟨i + 1, fun j hj => ?_, by omega, ?_⟩
        · by_cases e : j = i
          · subst e; exact Decidable.not_not.1 hc
          · exact hi j (by omega)
        · exact Wk.cq 0
      · refine Fin.q Try.results107 (.cons (.tmp rfl) .nil) [] (hr := (.t ?_))
        have : a = b := all_eq (z := 0) (by omega) fun j hj => hi j (by omega)
        simp [this]
theorem rdRow_min (l : List Int) (n : Nat) (m : Int) (k : Nat) (h : k = min m.toNat n) : rdRow l k m = rdRow l n m := by subst h; rw [rdRow_eq, rdRow_eq]; congr 2; omega
theorem rdKs_take (l : List Int) (m : Int) : rdKs l 3 m = ((l.take 3).take m.toNat).map rdK := by unfold rdKs; rw [List.take_take]
set_option maxHeartbeats 16000000 in
theorem rhall_c (c : DConf) (l : List Int) (hU : okU l) (n m t : Nat) (hn : c.cap = n) (hm : c.chans = m) (ht : c.threads = t) (hlen : l.length = 1 + m * (n + 1) + t * 4 + t) (hmn : m * (n + 1) ≤ 72) (htt : t ≤ 64) :
    Cd Try.prog 106 [aCf c, fU l] (fHl ⟨l.headD 0 % 4294967296, rdCs n (l.drop 1) m, rdWs (l.drop (1 + m * (n + 1))) t, rdRs (l.drop (1 + m * (n + 1) + t * 4)) t⟩) [] := by
  have g1 : (l.map tU).length = l.length := List.length_map _
  obtain ⟨a0, ha0⟩ : ∃ a, l[0]? = some a := ⟨_, List.getElem?_eq_getElem (by omega)⟩
  have hb0 := okU_at hU ha0
  have hmul : ∀ i, i ≤ m → i * (n + 1) ≤ m * (n + 1) := fun i hi => Nat.mul_le_mul_right _ hi
  have hm72 : m ≤ 72 := Nat.le_trans (Nat.le_mul_of_pos_right m (Nat.succ_pos n)) hmn
  rw [headD_of ha0]
  refine Cd.enter' Try.func106 rfl Try.ntmps106 rfl ?_
  repeat' (first | ((with_reducible refine kAL ?_); (first | refine A_box rfl rfl 24 _ rfl rfl (.push qL qN) ?_ | refine A_alloc rfl rfl 34 rfl inf34 (cs := [.t (.v (.int .i64 0)), AV.nl, AV.nl, AV.nl]) rfl (.push qL qN) ?_ | refine A_mt rfl rfl rfl rfl ?_ | (refine kL 1190 rfl ?_; refine A_idx rfl rfl 37 _ _ rfl ud37 inf84 (by decide) (by exact .inr rfl) rfl (by omega) _ (rfl : Int.toNat 0 = 0) (by exact map_get (by assumption)) rfl (cs' := [_]) rfl ?_) | refine A_load_lp rfl rfl 84 _ rfl ud84 rfl rfl rfl ?_ | (refine kL 2697 rfl ?_; refine A_rem rfl rfl 84 84 _ _ rfl rfl rfl (by decide) (by exact IntWalk.rem_in _ _ (by omega)) ?_) | refine A_conv rfl rfl 84 3 _ rfl ud84 ud3 rfl (by exact wi) ?_ | (refine kL 1102 rfl ?_; refine A_build rfl rfl 34 _ rfl ud34 inf34 [(0, 1), (1, 1), (2, 1), (3, 1)] (by kernel_rfl) (zs := [.t (.v (.int .i64 0)), AV.nl, AV.nl, AV.nl]) rfl (.cons rfl .nil) (cs := [_, _, _, _]) rfl ?_) | refine A_store rfl rfl 34 _ _ rfl inf34 rfl rfl rfl rfl (Nat.le_of_ble_eq_true rfl) qN qN ?_ | refine A_as rfl rfl rfl rfl ?_ | refine AL.nil ?_)) | (with_reducible (first | refine wk0 ?_ | refine wk1 ?_ | refine wk2 ?_)) | with_reducible refine AW.at_region _ ?_)
  all_goals first | (exfalso; omega) | skip
  refine AW.wk (Wk.ownB 2 1 rfl rfl 83 5 (.push rfl rfl) rfl) ?_
  refine AW.loopP (fun (i : Nat) => i ≤ m) (fun (i : Nat) => (pu (pu (pu (pu (pu (pu (fun _ => .any) 1 (fU l)) 2 (.ptr 0 0)) 4 (.ptr 1 0)) 5 (.ptr 2 0)) 6 (i64 (1 + i * (n + 1) : Nat))) 7 (i64 i))) (fun (i : Nat) => [.box 24 (cfCs c), .box 34 [i64 0, .nl, .nl, .nl], .box 34 [i64 (a0 % 4294967296), .sl 3 i i, .nl, .nl], .row i 83 5 ((rdCs n (l.drop 1) i).map tCh)]) (fun (i : Nat) => m - i) (0) ?_ ?_ ?_
  · exact Nat.zero_le _
  · rw [Nat.zero_mul]
    exact Wk.cq 4
  · intro i h3
    have hL := rdCs_len n (l.drop 1) i
    have hLt : (rdCs n l.tail i).length = i := rdCs_len n l.tail i
    have hM := hmul i h3
    by_cases hi : i < m
    · have hM1 := hmul (i + 1) hi
      have e1 : 1 + (i + 1) * (n + 1) = 1 + i * (n + 1) + (1 + n) := by rw [Nat.succ_mul]; omega
      obtain ⟨a, ha⟩ : ∃ a, l[1 + i * (n + 1)]? = some a := ⟨_, List.getElem?_eq_getElem (by omega)⟩
      have hb := okU_at hU ha
      have e0 : (l.drop (1 + i * (n + 1))).headD 0 = a := by rw [drop_cons_of ha]; rfl
      have hsx := rdCs_succ n (l.drop 1) i
      rw [List.drop_drop] at hsx
      unfold rdC at hsx
      rw [e0, List.drop_drop] at hsx
      generalize hp : 1 + i * (n + 1) = p at *
      have hz : rdRow (l.drop (p + 1)) 0 (a / 1048576 % 16) = [] := by simp [rdRow]
      repeat' (first | ((with_reducible refine kAL ?_); (first | refine A_mt rfl rfl rfl rfl ?_ | (refine kL 1190 rfl ?_; refine A_idx rfl rfl 37 _ _ rfl ud37 inf84 (by decide) (by exact .inr rfl) rfl (by omega) _ (by with_reducible exact Int.toNat_natCast _) (by exact map_get (by assumption)) rfl (cs' := [_]) rfl ?_) | refine A_load_lp rfl rfl 84 _ rfl ud84 rfl rfl rfl ?_ | (refine kL 2697 rfl ?_; (first | refine A_rem rfl rfl 84 84 _ _ rfl rfl rfl (by decide) (by exact IntWalk.rem_in _ _ (by omega)) ?_ | refine A_quo rfl rfl 84 84 _ _ rfl rfl rfl (by decide) (by exact IntWalk.u64_quo _ _ (by omega)) ?_ | refine A_cmp (d := 43) rfl rfl .eql 84 84 _ _ rfl rfl rfl rfl ?_ | refine A_cmp (d := 47) rfl rfl .eql 84 84 _ _ rfl rfl rfl rfl ?_)) | refine A_conv rfl rfl 84 3 _ rfl ud84 ud3 rfl (by exact wi) ?_ | refine A_as rfl rfl rfl rfl ?_ | refine A_field rfl rfl 24 _ 2 rfl ud24 rfl inf3 (by decide) 2 rfl rfl ?_ | refine A_load rfl rfl 3 _ rfl ud3 rfl rfl rfl rfl ?_ | refine A_cmp (d := 26) rfl rfl (c := true) .lss 3 3 _ _ rfl rfl rfl (by exact congrArg some (decide_eq_true (by (try (dsimp only; fail_if_success done)); omega))) ?_ | (refine kL 2670 rfl ?_; refine A_build rfl rfl 83 _ rfl ud83 inf83 [(0, 1), (1, 1), (2, 1), (3, 1), (4, 1)] (by kernel_rfl) (zs := [.t (.v (.int .i64 0)), .t (.v (.int .i64 0)), .t (.v (.bool false)), .t (.v (.bool false)), AV.nl]) rfl (.cons rfl (.cons rfl (.cons rfl (.cons rfl .nil)))) (cs := [_, _, _, _, _]) rfl ?_) | refine A_alloc rfl rfl 83 rfl inf83 (cs := [.t (.v (.int .i64 0)), .t (.v (.int .i64 0)), .t (.v (.bool false)), .t (.v (.bool false)), AV.nl]) rfl (.push qL qN) ?_ | refine A_store rfl rfl 83 _ _ rfl inf83 rfl rfl rfl rfl (Nat.le_of_ble_eq_true rfl) qN qN ?_ | refine AL.nil ?_)) | (with_reducible (first | refine wk0 ?_ | refine wk1 ?_ | refine wk2 ?_ | refine wkd ?_)) | refine kct rfl ?_ | with_reducible refine AW.at_region _ ?_)
      all_goals first | (exfalso; omega) | skip
      refine AW.wk (Wk.ownB 4 4 rfl rfl 3 1 (.push rfl rfl) rfl) ?_
      refine AW.loopP (fun (x : Nat × Nat × Nat) => x.1 ≤ min (a / 1048576 % 16).toNat n ∧ x.2.2 = (rdRow (l.drop (p + 1)) x.1 (a / 1048576 % 16)).length) (fun (x : Nat × Nat × Nat) => (pu (pu (pu (pu (pu (pu (pu (pu (pu (fun _ => .any) 1 (fU l)) 2 (.ptr 0 0)) 4 (.ptr 1 0)) 5 (.ptr 2 0)) 6 (i64 p)) 7 (i64 i)) 8 (u64 a)) 9 (.ptr 4 0)) 10 (i64 x.1))) (fun (x : Nat × Nat × Nat) => [.box 24 (cfCs c), .box 34 [i64 0, .nl, .nl, .nl], .box 34 [i64 (a0 % 4294967296), .sl 3 i i, .nl, .nl], .row i 83 5 ((rdCs n (l.drop 1) i).map tCh), .box 83 [i64 (a % 4096), i64 (a / 4096 % 16), bo (decide (a / 65536 % 2 = 1)), bo (decide (a / 131072 % 2 = 1)), .sl 5 x.2.1 x.2.2], .row x.2.1 3 1 ((rdRow (l.drop (p + 1)) x.1 (a / 1048576 % 16)).map tI)]) (fun (x : Nat × Nat × Nat) => n - x.1) ((0, 0, 0)) ?_ ?_ ?_
      · exact ⟨Nat.zero_le _, by rw [hz]; rfl⟩
      · dsimp only
        rw [hz]
        exact Wk.cq 6
      · rintro ⟨j, k, q⟩ ⟨h4, h5⟩
        dsimp only at h4 h5 ⊢
        have hR := rdRow_len (l.drop (p + 1)) j (a / 1048576 % 16)
        by_cases hj : j < min (a / 1048576 % 16).toNat n
        · obtain ⟨b, hb1⟩ : ∃ b, l[p + 1 + j]? = some b := ⟨_, List.getElem?_eq_getElem (by omega)⟩
          have hb2 : (l.drop (p + 1))[j]? = some b := by rw [List.getElem?_drop]; exact hb1
          have hbb := okU_at hU hb1
          have hs := rdRow_succ (m := a / 1048576 % 16) hb2 (by omega)
          have hb3 : l[Int.toNat ((p : Int) + 1 + (j : Int))]? = some b := by rw [show Int.toNat ((p : Int) + 1 + (j : Int)) = p + 1 + j by omega]; exact hb1
          clear hb1 hb2 ha ha0
          repeat' (first | ((with_reducible refine kAL ?_); (first | refine A_mt rfl rfl rfl rfl ?_ | (refine kL 2697 rfl ?_; (first | refine A_rem rfl rfl 84 84 _ _ rfl rfl rfl (by decide) (by exact IntWalk.rem_in _ _ (by omega)) ?_ | refine A_quo rfl rfl 84 84 _ _ rfl rfl rfl (by decide) (by exact IntWalk.u64_quo _ _ (by omega)) ?_)) | refine A_conv rfl rfl 84 3 _ rfl ud84 ud3 rfl (by exact wi) ?_ | refine A_as rfl rfl rfl rfl ?_ | refine A_field rfl rfl 24 _ 3 rfl ud24 rfl inf3 (by decide) 3 rfl rfl ?_ | refine A_load rfl rfl 3 _ rfl ud3 rfl rfl rfl rfl ?_ | (refine kL 105 rfl ?_; (first | refine A_cmp (d := 54) rfl rfl (c := true) .lss 3 3 _ _ rfl rfl rfl (by exact congrArg some (decide_eq_true (by (try (dsimp only; fail_if_success done)); omega))) ?_ | refine A_cmp (d := 59) rfl rfl (c := true) .lss 3 3 _ _ rfl rfl rfl (by exact congrArg some (decide_eq_true (by (try (dsimp only; fail_if_success done)); omega))) ?_ | refine A_add rfl rfl 3 3 _ _ rfl rfl rfl (by exact wi) ?_)) | (refine kL 19 rfl ?_; refine A_pkt rfl rfl _ _ _ rfl rfl rfl ?_) | refine AL.nil ?_)) | ((with_reducible refine kRG ?_); (first | refine R_field rfl rfl 83 _ 4 rfl ud83 rfl inf22 (by decide) 4 rfl rfl ?_ | refine R_load rfl rfl 22 _ rfl ud22 rfl rfl rfl rfl ?_ | refine R_mt rfl rfl rfl rfl ?_ | refine R_add rfl rfl 3 3 _ _ rfl rfl rfl (by exact wi) ?_ | (refine kR 1190 rfl ?_; refine R_idx rfl rfl 37 _ _ rfl ud37 inf84 (by decide) (by exact .inr rfl) rfl (by omega) _ (by exact rfl) (by exact map_get (by assumption)) rfl (cs' := [_]) rfl ?_) | refine R_load_lp rfl rfl 84 _ rfl ud84 rfl rfl rfl ?_ | (refine kR 2697 rfl ?_; refine R_rem rfl rfl 84 84 _ _ rfl rfl rfl (by decide) (by exact IntWalk.rem_in _ _ (by omega)) ?_) | refine R_conv rfl rfl 84 3 _ rfl ud84 ud3 rfl (by exact wi) ?_ | (refine kR 719 rfl ?_; refine R_lit (N := 6) rfl rfl 22 1 _ rfl ud22 inf3 (.cons rfl .nil) (els := [[_]]) rfl (by exact (rfl : _ = List.map tI [_])) rfl (Nat.ne_of_beq_eq_false rfl) (Nat.le_of_ble_eq_true rfl) (Nat.le_of_ble_eq_true rfl) rfl qN ?_) | (refine kR 12 rfl ?_; refine R_append rfl rfl _ _ 22 rfl ud22 inf3 rfl rfl rfl (by (simp; omega)) (by exact .all rfl (by rfl)) qB qB (by exact app_one (f := tI) (x := _) (by omega)) qN qS ?_) | refine R_store rfl rfl 22 _ _ rfl inf22 rfl rfl rfl rfl (Nat.le_of_ble_eq_true rfl) qN qN ?_ | refine RG.nil ⟨by kernel_rfl, ?_⟩)) | (with_reducible (first | refine wk0 ?_ | refine wk1 ?_ | refine wk2 ?_ | refine wk5 ?_ | refine wkd ?_)) | refine kct rfl ?_ | with_reducible refine AW.at_region _ ?_ | refine AW.at_draw 11 mixed 2 [[], [0], [], [], [3], [], [3, 4, 5], [2, 3, 4, 5, 6], [2, 3, 4, 5, 6, 7], [2, 3, 4, 5, 6, 7, 8], [2, 3, 4, 5, 6, 7, 8, 9], [2, 3, 4, 5, 6, 7, 8, 9, 10], [0, 1, 2, 3, 4, 5, 6, 7, 8, 9, 10, 11], [0, 1, 2, 3, 4, 5, 6, 7, 8, 9, 10, 11, 12], [0, 1, 2, 3, 4, 5, 6, 7, 8, 9, 10, 11, 12, 13]] qR ?_)
          all_goals first | (exfalso; omega) | skip
          refine ⟨(j + 1, k + 1, q + 1), ⟨by dsimp only; omega, by dsimp only; rw [hs]; simp; omega⟩, by dsimp only; omega, ?_⟩
          rw [hs]
          exact Wk.cq 6
        · obtain rfl : j = min (a / 1048576 % 16).toNat n := by omega
          rw [rdRow_min _ n _ _ rfl] at h5 ⊢
          refine AW.wk (Wk.freezeB 5 rfl 4 rfl (.cons (by first | exact .all (by first | rfl | (simp <;> fail) | (simp; omega)) | exact .nlt | exact .same _) (.cons (by first | exact .all (by first | rfl | (simp <;> fail) | (simp; omega)) | exact .nlt | exact .same _) (.cons (by first | exact .all (by first | rfl | (simp <;> fail) | (simp; omega)) | exact .nlt | exact .same _) (.cons (by first | exact .all (by first | rfl | (simp <;> fail) | (simp; omega)) | exact .nlt | exact .same _) (.cons (by first | exact .all (by first | rfl | (simp <;> fail) | (simp; omega)) | exact .nlt | exact .same _) (.nil)))))) rfl) ?_
          repeat' (first | ((with_reducible refine kAL ?_); (first | refine A_mt rfl rfl rfl rfl ?_ | (refine kL 2697 rfl ?_; (first | refine A_rem rfl rfl 84 84 _ _ rfl rfl rfl (by decide) (by exact IntWalk.rem_in _ _ (by omega)) ?_ | refine A_quo rfl rfl 84 84 _ _ rfl rfl rfl (by decide) (by exact IntWalk.u64_quo _ _ (by omega)) ?_)) | refine A_conv rfl rfl 84 3 _ rfl ud84 ud3 rfl (by exact wi) ?_ | refine A_as rfl rfl rfl rfl ?_ | refine A_field rfl rfl 24 _ 3 rfl ud24 rfl inf3 (by decide) 3 rfl rfl ?_ | refine A_load rfl rfl 3 _ rfl ud3 rfl rfl rfl rfl ?_ | (refine kL 105 rfl ?_; (first | refine A_cmp (d := 59) rfl rfl (c := false) .lss 3 3 _ _ rfl rfl rfl (by exact congrArg some (decide_eq_false (by (try (dsimp only; fail_if_success done)); omega))) ?_ | refine A_add rfl rfl 3 3 _ _ rfl rfl rfl (by first | exact wi | rfl) ?_ | refine A_cmp (d := 54) rfl rfl .lss 3 3 _ _ rfl rfl rfl rfl ?_)) | (refine kL 19 rfl ?_; (first | refine A_pkt rfl rfl _ _ _ rfl rfl rfl ?_ | refine A_pkf rfl rfl _ _ _ rfl rfl rfl ?_)) | refine A_field rfl rfl 34 _ 1 rfl ud34 rfl inf30 (by decide) 1 rfl rfl ?_ | refine A_load rfl rfl 30 _ rfl ud30 rfl rfl rfl rfl ?_ | refine A_load_agg rfl rfl 83 _ rfl ud83 rfl inf83 rfl rfl (us' := [_, _, _, _, _]) rfl rfl ?_ | (refine kL 975 rfl ?_; refine A_lit rfl rfl 30 1 _ rfl ud30 inf83 (.cons rfl .nil) (els := [[_, _, _, _, _]]) rfl (by exact (rfl : _ = List.map tCh [⟨_, _, _, _, _⟩])) rfl (Nat.ne_of_beq_eq_false rfl) (Nat.le_of_ble_eq_true rfl) (Nat.le_of_ble_eq_true rfl) (.push qL qN) ?_) | (refine kL 12 rfl ?_; refine A_append rfl rfl _ _ 30 rfl ud30 inf83 rfl rfl rfl (by (simp; omega)) (by exact .all rfl (by rfl)) qB qB (by exact app_one (f := tCh) (x := ⟨_, _, _, _, _⟩) (by omega)) qN qS ?_) | refine A_store rfl rfl 30 _ _ rfl inf30 rfl rfl rfl rfl (Nat.le_of_ble_eq_true rfl) qN qN ?_ | refine AL.nil ?_ | refine AL.skip rfl rfl ?_ | (refine AL.split 55 rfl (fun hb => ?_) (fun hb => ?_) <;> (try simp only [decide_eq_true_eq, decide_eq_false_iff_not, Bool.not_eq_true', Bool.not_eq_false'] at hb) <;> (first | refine AL.skip rfl rfl ?_ | refine AL.need rfl ?_)))) | (with_reducible (first | refine wk0 ?_ | refine wk2 ?_ | refine wk4 ?_ | refine wk5 ?_ | refine wk7 ?_ | refine wkc ?_)) | refine kcf rfl ?_ | with_reducible refine AW.at_region _ ?_)
          all_goals first | (exfalso; omega) | skip
          all_goals
            refine ⟨i + 1, by omega, by omega, ?_⟩
            rw [hsx, e1, hn]
            exact Wk.cq 4
    · obtain rfl : i = m := by omega
      refine AW.wk (Wk.freezeB 3 rfl 2 rfl (.cons (.same _) (.cons (.all (by first | rfl | (simp <;> fail) | (simp; omega))) (.cons (.same _) (.cons (.same _) (.nil))))) rfl) ?_
      repeat' (first | ((with_reducible refine kAL ?_); (first | refine A_mt rfl rfl rfl rfl ?_ | refine A_as rfl rfl rfl rfl ?_ | refine A_field rfl rfl 24 _ 2 rfl ud24 rfl inf3 (by decide) 2 rfl rfl ?_ | refine A_load rfl rfl 3 _ rfl ud3 rfl rfl rfl rfl ?_ | refine A_cmp (d := 26) rfl rfl (c := false) .lss 3 3 _ _ rfl rfl rfl (by exact congrArg some (decide_eq_false (by (try (dsimp only; fail_if_success done)); omega))) ?_ | refine AL.nil ?_)) | (with_reducible (first | refine wk0 ?_ | refine wk1 ?_ | refine wk2 ?_ | refine wk4 ?_ | refine wk7 ?_ | refine wkc ?_)) | refine kcf rfl ?_ | with_reducible refine AW.at_region _ ?_)
      all_goals first | (exfalso; omega) | skip
      refine AW.wk (Wk.ownB 2 2 rfl rfl 92 4 (.push rfl rfl) rfl) ?_
      generalize hS : 1 + i * (n + 1) = S at *
      generalize rdCs n (l.drop 1) i = CS at *
      refine AW.loopP (fun (j : Nat) => j ≤ t) (fun (j : Nat) => (pu (pu (pu (pu (pu (pu (fun _ => .any) 1 (fU l)) 2 (.ptr 0 0)) 4 (.ptr 1 0)) 5 (.ptr 2 0)) 6 (i64 (S + j * 4 : Nat))) 11 (i64 j))) (fun (j : Nat) => [.box 24 (cfCs c), .box 34 [i64 0, .nl, .nl, .nl], .box 34 [i64 (a0 % 4294967296), .t (.lst (CS.map tCh)), .sl 3 j j, .nl], .row j 92 4 ((rdWs (l.drop S) j).map tWt)]) (fun (j : Nat) => t - j) (0) ?_ ?_ ?_
      · exact Nat.zero_le _
      · rw [Nat.zero_mul]
        exact Wk.cq3 [0, 1, 2, 4]
      · intro j h4
        have hL2 := rdWs_len (l.drop S) j
        by_cases hj : j < t
        · have e1 : S + (j + 1) * 4 = S + j * 4 + 4 := by omega
          obtain ⟨a, ha⟩ : ∃ a, l[S + j * 4]? = some a := ⟨_, List.getElem?_eq_getElem (by omega)⟩
          have hb := okU_at hU ha
          have e0 : (l.drop (S + j * 4)).headD 0 = a := by rw [drop_cons_of ha]; rfl
          have hsx := rdWs_succ (l.drop S) j
          rw [List.drop_drop] at hsx
          unfold rdW at hsx
          rw [e0, List.drop_drop] at hsx
          generalize hp : S + j * 4 = p at *
          rw [← rdKs_take] at hsx
          have hz : rdKs (l.drop (p + 1)) 0 (a / 2 % 8) = [] := by simp [rdKs]
          repeat' (first | ((with_reducible refine kAL ?_); (first | refine A_mt rfl rfl rfl rfl ?_ | (refine kL 1190 rfl ?_; refine A_idx rfl rfl 37 _ _ rfl ud37 inf84 (by decide) (by exact .inr rfl) rfl (by omega) _ (by with_reducible exact Int.toNat_natCast _) (by exact map_get (by assumption)) rfl (cs' := [_]) rfl ?_) | refine A_load_lp rfl rfl 84 _ rfl ud84 rfl rfl rfl ?_ | (refine kL 2697 rfl ?_; (first | refine A_rem rfl rfl 84 84 _ _ rfl rfl rfl (by decide) (by exact IntWalk.rem_in _ _ (by omega)) ?_ | refine A_quo rfl rfl 84 84 _ _ rfl rfl rfl (by decide) (by exact IntWalk.u64_quo _ _ (by omega)) ?_ | refine A_cmp (d := 100) rfl rfl .eql 84 84 _ _ rfl rfl rfl rfl ?_)) | refine A_conv rfl rfl 84 3 _ rfl ud84 ud3 rfl (by exact wi) ?_ | refine A_as rfl rfl rfl rfl ?_ | refine A_field rfl rfl 24 _ 1 rfl ud24 rfl inf3 (by decide) 1 rfl rfl ?_ | refine A_load rfl rfl 3 _ rfl ud3 rfl rfl rfl rfl ?_ | refine A_cmp (d := 91) rfl rfl (c := true) .lss 3 3 _ _ rfl rfl rfl (by exact congrArg some (decide_eq_true (by (try (dsimp only; fail_if_success done)); omega))) ?_ | (refine kL 2958 rfl ?_; refine A_build rfl rfl 92 _ rfl ud92 inf92 [(0, 1), (1, 1), (2, 1), (3, 1)] (by kernel_rfl) (zs := [.t (.v (.bool false)), .t (.v (.int .i64 0)), .t (.v (.int .i64 0)), AV.nl]) rfl (.cons rfl (.cons rfl (.cons rfl .nil))) (cs := [_, _, _, _]) rfl ?_) | refine A_alloc rfl rfl 92 rfl inf92 (cs := [.t (.v (.bool false)), .t (.v (.int .i64 0)), .t (.v (.int .i64 0)), AV.nl]) rfl (.push qL qN) ?_ | refine A_store rfl rfl 92 _ _ rfl inf92 rfl rfl rfl rfl (Nat.le_of_ble_eq_true rfl) qN qN ?_ | refine AL.nil ?_)) | (with_reducible (first | refine wk0 ?_ | refine wk1 ?_ | refine wk2 ?_ | refine wkd ?_)) | refine kct rfl ?_ | with_reducible refine AW.at_region _ ?_)
          all_goals first | (exfalso; omega) | skip
          refine AW.wk (Wk.ownB 4 3 rfl rfl 105 3 (.push rfl rfl) rfl) ?_
          refine AW.loopP (fun (x : Nat × Nat × Nat) => x.1 ≤ min (a / 2 % 8).toNat 3 ∧ x.2.2 = (rdKs (l.drop (p + 1)) x.1 (a / 2 % 8)).length) (fun (x : Nat × Nat × Nat) => (pu (pu (pu (pu (pu (pu (pu (pu (pu (fun _ => .any) 1 (fU l)) 2 (.ptr 0 0)) 4 (.ptr 1 0)) 5 (.ptr 2 0)) 6 (i64 p)) 11 (i64 j)) 12 (u64 a)) 13 (.ptr 4 0)) 14 (i64 x.1))) (fun (x : Nat × Nat × Nat) => [.box 24 (cfCs c), .box 34 [i64 0, .nl, .nl, .nl], .box 34 [i64 (a0 % 4294967296), .t (.lst (CS.map tCh)), .sl 3 j j, .nl], .row j 92 4 ((rdWs (l.drop S) j).map tWt), .box 92 [bo (decide (a % 2 = 1)), i64 (a / 4294967296), i64 (a / 16 % 1048576), .sl 5 x.2.1 x.2.2], .row x.2.1 105 3 ((rdKs (l.drop (p + 1)) x.1 (a / 2 % 8)).map tCs)]) (fun (x : Nat × Nat × Nat) => 3 - x.1) ((0, 0, 0)) ?_ ?_ ?_
          · exact ⟨Nat.zero_le _, by rw [hz]; rfl⟩
          · dsimp only
            rw [hz]
            exact Wk.cq 6
          · rintro ⟨q, k, r⟩ ⟨h4, h5⟩
            dsimp only at h4 h5 ⊢
            have hR : (rdKs (l.drop (p + 1)) q (a / 2 % 8)).length ≤ q := by simp [rdKs]; omega
            by_cases hq : q < min (a / 2 % 8).toNat 3
            · obtain ⟨b, hb1⟩ : ∃ b, l[p + 1 + q]? = some b := ⟨_, List.getElem?_eq_getElem (by omega)⟩
              have hb2 : (l.drop (p + 1))[q]? = some b := by rw [List.getElem?_drop]; exact hb1
              have hbb := okU_at hU hb1
              have hs : rdKs (l.drop (p + 1)) (q + 1) (a / 2 % 8) = rdKs (l.drop (p + 1)) q (a / 2 % 8) ++ [⟨b % 256, b / 256 % 65536, b / 4294967296⟩] := rdKs_succ hb2 (by omega)
              have hb3 : l[Int.toNat ((p : Int) + 1 + (q : Int))]? = some b := by rw [show Int.toNat ((p : Int) + 1 + (q : Int)) = p + 1 + q by omega]; exact hb1
              clear hb1 hb2 ha ha0
              repeat' (first | ((with_reducible refine kAL ?_); (first | refine A_mt rfl rfl rfl rfl ?_ | (refine kL 1190 rfl ?_; refine A_idx rfl rfl 37 _ _ rfl ud37 inf84 (by decide) (by exact .inr rfl) rfl (by omega) _ (by exact rfl) (by exact map_get (by assumption)) rfl (cs' := [_]) rfl ?_) | refine A_load_lp rfl rfl 84 _ rfl ud84 rfl rfl rfl ?_ | (refine kL 2697 rfl ?_; (first | refine A_rem rfl rfl 84 84 _ _ rfl rfl rfl (by decide) (by exact IntWalk.rem_in _ _ (by omega)) ?_ | refine A_quo rfl rfl 84 84 _ _ rfl rfl rfl (by decide) (by exact IntWalk.u64_quo _ _ (by omega)) ?_)) | refine A_conv rfl rfl 84 3 _ rfl ud84 ud3 rfl (by exact wi) ?_ | refine A_as rfl rfl rfl rfl ?_ | (refine kL 105 rfl ?_; (first | refine A_add rfl rfl 3 3 _ _ rfl rfl rfl (by first | exact wi | rfl) ?_ | refine A_cmp (d := 114) rfl rfl (c := true) .lss 3 3 _ _ rfl rfl rfl (by exact congrArg some (decide_eq_true (by (try (dsimp only; fail_if_success done)); omega))) ?_ | refine A_cmp (d := 117) rfl rfl (c := true) .lss 3 3 _ _ rfl rfl rfl (by exact congrArg some (decide_eq_true (by (try (dsimp only; fail_if_success done)); omega))) ?_)) | (refine kL 19 rfl ?_; refine A_pkt rfl rfl _ _ _ rfl rfl rfl ?_) | (refine kL 12 rfl ?_; refine A_append rfl rfl _ _ 90 rfl ud90 inf105 rfl rfl rfl (by (simp; omega)) (by exact .all rfl (by rfl)) qB qB (by exact app_one (f := tCs) (x := ⟨_, _, _⟩) (by omega)) qN qS ?_) | refine A_field rfl rfl 92 _ 3 rfl ud92 rfl inf90 (by decide) 3 rfl rfl ?_ | refine A_load rfl rfl 90 _ rfl ud90 rfl rfl rfl rfl ?_ | (refine kL 3374 rfl ?_; refine A_build rfl rfl 105 _ rfl ud105 inf105 [(0, 1), (1, 1), (2, 1)] (by kernel_rfl) (zs := [.t (.v (.int .i64 0)), .t (.v (.int .i64 0)), .t (.v (.int .i64 0))]) rfl (.cons rfl (.cons rfl (.cons rfl .nil))) (cs := [_, _, _]) rfl ?_) | (refine kL 2895 rfl ?_; refine A_lit rfl rfl 90 1 _ rfl ud90 inf105 (.cons rfl .nil) (els := [[_, _, _]]) rfl (by exact (rfl : _ = List.map tCs [⟨_, _, _⟩])) rfl (Nat.ne_of_beq_eq_false rfl) (Nat.le_of_ble_eq_true rfl) (Nat.le_of_ble_eq_true rfl) (.push qL qN) ?_) | refine A_store rfl rfl 90 _ _ rfl inf90 rfl rfl rfl rfl (Nat.le_of_ble_eq_true rfl) qN qN ?_ | refine AL.nil ?_)) | (with_reducible (first | refine wk0 ?_ | refine wk1 ?_ | refine wk2 ?_ | refine wk5 ?_ | refine wkd ?_)) | refine kct rfl ?_ | with_reducible refine AW.at_region _ ?_)
              all_goals first | (exfalso; omega) | skip
              refine ⟨(q + 1, k + 1, r + 1), ⟨by dsimp only; omega, by dsimp only; rw [hs]; simp; omega⟩, by dsimp only; omega, ?_⟩
              rw [hs]
              exact Wk.cq 6
            · obtain rfl : q = min (a / 2 % 8).toNat 3 := by omega
              have e5 : rdKs (l.drop (p + 1)) (min (a / 2 % 8).toNat 3) (a / 2 % 8) = rdKs (l.drop (p + 1)) 3 (a / 2 % 8) := by unfold rdKs; congr 2; omega
              rw [e5] at h5 ⊢
              refine AW.wk (Wk.freezeB 5 rfl 4 rfl (.cons (by first | exact .all (by first | rfl | (simp <;> fail) | (simp; omega)) | exact .nlt | exact .same _) (.cons (by first | exact .all (by first | rfl | (simp <;> fail) | (simp; omega)) | exact .nlt | exact .same _) (.cons (by first | exact .all (by first | rfl | (simp <;> fail) | (simp; omega)) | exact .nlt | exact .same _) (.cons (by first | exact .all (by first | rfl | (simp <;> fail) | (simp; omega)) | exact .nlt | exact .same _) (.nil))))) rfl) ?_
              repeat' (first | ((with_reducible refine kAL ?_); (first | refine A_mt rfl rfl rfl rfl ?_ | (refine kL 2697 rfl ?_; (first | refine A_rem rfl rfl 84 84 _ _ rfl rfl rfl (by decide) (by exact IntWalk.rem_in _ _ (by omega)) ?_ | refine A_quo rfl rfl 84 84 _ _ rfl rfl rfl (by decide) (by exact IntWalk.u64_quo _ _ (by omega)) ?_)) | refine A_conv rfl rfl 84 3 _ rfl ud84 ud3 rfl (by exact wi) ?_ | refine A_as rfl rfl rfl rfl ?_ | (refine kL 105 rfl ?_; (first | refine A_add rfl rfl 3 3 _ _ rfl rfl rfl (by first | exact wi | rfl) ?_ | refine A_cmp (d := 117) rfl rfl (c := false) .lss 3 3 _ _ rfl rfl rfl (by exact congrArg some (decide_eq_false (by (try (dsimp only; fail_if_success done)); omega))) ?_ | refine A_cmp (d := 114) rfl rfl .lss 3 3 _ _ rfl rfl rfl rfl ?_)) | (refine kL 19 rfl ?_; (first | refine A_pkt rfl rfl _ _ _ rfl rfl rfl ?_ | refine A_pkf rfl rfl _ _ _ rfl rfl rfl ?_)) | refine A_field rfl rfl 34 _ 2 rfl ud34 rfl inf31 (by decide) 2 rfl rfl ?_ | (refine kL 12 rfl ?_; refine A_append rfl rfl _ _ 31 rfl ud31 inf92 rfl rfl rfl (by (simp; omega)) (by exact .all rfl (by rfl)) qB qB (by exact app_one (f := tWt) (x := ⟨_, _, _, _⟩) (by omega)) qN qS ?_) | refine A_load rfl rfl 31 _ rfl ud31 rfl rfl rfl rfl ?_ | refine A_load_agg rfl rfl 92 _ rfl ud92 rfl inf92 rfl rfl (us' := [_, _, _, _]) rfl rfl ?_ | (refine kL 1007 rfl ?_; refine A_lit rfl rfl 31 1 _ rfl ud31 inf92 (.cons rfl .nil) (els := [[_, _, _, _]]) rfl (by exact (rfl : _ = List.map tWt [⟨_, _, _, _⟩])) rfl (Nat.ne_of_beq_eq_false rfl) (Nat.le_of_ble_eq_true rfl) (Nat.le_of_ble_eq_true rfl) (.push qL qN) ?_) | refine A_store rfl rfl 31 _ _ rfl inf31 rfl rfl rfl rfl (Nat.le_of_ble_eq_true rfl) qN qN ?_ | refine AL.nil ?_ | refine AL.skip rfl rfl ?_ | (refine AL.split 115 rfl (fun hb => ?_) (fun hb => ?_) <;> (try simp only [decide_eq_true_eq, decide_eq_false_iff_not, Bool.not_eq_true', Bool.not_eq_false'] at hb) <;> (first | refine AL.skip rfl rfl ?_ | refine AL.need rfl ?_)))) | (with_reducible (first | refine wk0 ?_ | refine wk2 ?_ | refine wk4 ?_ | refine wk5 ?_ | refine wk7 ?_ | refine wkc ?_)) | refine kcf rfl ?_ | with_reducible refine AW.at_region _ ?_)
              all_goals first | (exfalso; omega) | skip
              all_goals
                refine ⟨j + 1, by omega, by omega, ?_⟩
                rw [hsx, e1]
                exact Wk.cq 4
        · obtain rfl : j = t := by omega
          refine AW.wk (Wk.freezeB 3 rfl 2 rfl (.cons (.same _) (.cons (.same _) (.cons (.all (by first | rfl | (simp <;> fail) | (simp; omega))) (.cons (.same _) (.nil))))) rfl) ?_
          repeat' (first | ((with_reducible refine kAL ?_); (first | refine A_mt rfl rfl rfl rfl ?_ | refine A_as rfl rfl rfl rfl ?_ | refine A_field rfl rfl 24 _ 1 rfl ud24 rfl inf3 (by decide) 1 rfl rfl ?_ | refine A_load rfl rfl 3 _ rfl ud3 rfl rfl rfl rfl ?_ | refine A_cmp (d := 91) rfl rfl (c := false) .lss 3 3 _ _ rfl rfl rfl (by exact congrArg some (decide_eq_false (by (try (dsimp only; fail_if_success done)); omega))) ?_ | refine AL.nil ?_)) | (with_reducible (first | refine wk0 ?_ | refine wk1 ?_ | refine wk2 ?_ | refine wk4 ?_ | refine wk7 ?_ | refine wkc ?_)) | refine kcf rfl ?_ | with_reducible refine AW.at_region _ ?_)
          all_goals first | (exfalso; omega) | skip
          refine AW.wk (Wk.ownB 2 3 rfl rfl 107 4 (.push rfl rfl) rfl) ?_
          generalize hS2 : S + j * 4 = S2 at *
          generalize rdWs (l.drop S) j = WS at *
          have hz : rdRs (l.drop S2) 0 = [] := by simp [rdRs]
          refine AW.loopP (fun (q : Nat) => q ≤ j) (fun (q : Nat) => (pu (pu (pu (pu (pu (pu (fun _ => .any) 1 (fU l)) 2 (.ptr 0 0)) 4 (.ptr 1 0)) 5 (.ptr 2 0)) 6 (i64 S2)) 16 (i64 q))) (fun (q : Nat) => [.box 24 (cfCs c), .box 34 [i64 0, .nl, .nl, .nl], .box 34 [i64 (a0 % 4294967296), .t (.lst (CS.map tCh)), .t (.lst (WS.map tWt)), .sl 3 q q], .row q 107 4 ((rdRs (l.drop S2) q).map tR)]) (fun (q : Nat) => j - q) (0) ?_ ?_ ?_
          · exact Nat.zero_le _
          · rw [hz]
            exact Wk.cq3 [0, 1, 2, 4]
          · intro q h6
            have hL3 : (rdRs (l.drop S2) q).length = q := by simp [rdRs]; omega
            by_cases hq : q < j
            · obtain ⟨a, ha⟩ : ∃ a, l[S2 + q]? = some a := ⟨_, List.getElem?_eq_getElem (by omega)⟩
              have ha2 : (l.drop S2)[q]? = some a := by rw [List.getElem?_drop]; exact ha
              have hb := okU_at hU ha
              have cR := rread_c a hb
              have hs : rdRs (l.drop S2) (q + 1) = rdRs (l.drop S2) q ++ [readR a] := by unfold rdRs; rw [List.take_add_one, ha2]; simp
              have hb3 : l[Int.toNat ((S2 : Int) + (q : Int))]? = some a := by rw [show Int.toNat ((S2 : Int) + (q : Int)) = S2 + q by omega]; exact ha
              clear ha ha2 ha0
              repeat' (first | ((with_reducible refine kAL ?_); (first | refine A_mt rfl rfl rfl rfl ?_ | refine A_as rfl rfl rfl rfl ?_ | refine A_field rfl rfl 24 _ 1 rfl ud24 rfl inf3 (by decide) 1 rfl rfl ?_ | refine A_load rfl rfl 3 _ rfl ud3 rfl rfl rfl rfl ?_ | (refine kL 105 rfl ?_; (first | refine A_add rfl rfl 3 3 _ _ rfl rfl rfl (by first | exact wi | rfl) ?_ | refine A_cmp (d := 155) rfl rfl (c := true) .lss 3 3 _ _ rfl rfl rfl (by exact congrArg some (decide_eq_true (by (try (dsimp only; fail_if_success done)); omega))) ?_)) | refine AL.nil ?_)) | ((with_reducible refine kRG ?_); (first | refine R_mt rfl rfl rfl rfl ?_ | refine R_add rfl rfl 3 3 _ _ rfl rfl rfl (by exact wi) ?_ | (refine kR 1190 rfl ?_; refine R_idx rfl rfl 37 _ _ rfl ud37 inf84 (by decide) (by exact .inr rfl) rfl (by omega) _ (by exact rfl) (by exact map_get (by assumption)) rfl (cs' := [_]) rfl ?_) | refine R_load_lp rfl rfl 84 _ rfl ud84 rfl rfl rfl ?_ | (refine kR 12 rfl ?_; refine R_append rfl rfl _ _ 32 rfl ud32 inf107 rfl rfl rfl (by (simp; omega)) (by exact .all rfl (by rfl)) qB qB (by exact app_one (f := tR) (x := ⟨_, _, _, _⟩) (by omega)) qN qS ?_) | refine R_field rfl rfl 34 _ 3 rfl ud34 rfl inf32 (by decide) 3 rfl rfl ?_ | refine R_load rfl rfl 32 _ rfl ud32 rfl rfl rfl rfl ?_ | (refine kR 3498 rfl ?_; (refine R_cl rfl rfl Try.func109 rfl (cR) ?_; refine ⟨0, _, _, _, rfl, qU, qU, qZ, ?_⟩)) | (refine kR 1039 rfl ?_; refine R_lit (N := 4) rfl rfl 32 1 _ rfl ud32 inf107 (.cons rfl .nil) (els := [[_, _, _, _]]) rfl (by exact (rfl : _ = List.map tR [⟨_, _, _, _⟩])) rfl (Nat.ne_of_beq_eq_false rfl) (Nat.le_of_ble_eq_true rfl) (Nat.le_of_ble_eq_true rfl) rfl qN ?_) | refine R_store rfl rfl 32 _ _ rfl inf32 rfl rfl rfl rfl (Nat.le_of_ble_eq_true rfl) qN qN ?_ | refine RG.nil ⟨by kernel_rfl, ?_⟩)) | (with_reducible (first | refine wk0 ?_ | refine wk1 ?_ | refine wk2 ?_ | refine wk5 ?_ | refine wkd ?_)) | refine kct rfl ?_ | with_reducible refine AW.at_region _ ?_ | refine AW.at_draw 29 mixed 2 [[], [0], [], [], [], [3, 4], [2, 3, 4, 5], [2, 3, 4, 5, 6], [2, 3, 4, 5, 6, 7], [2, 3, 4, 5, 6, 7, 8], [0, 1, 2, 3, 4, 5, 6, 7, 8, 9], [0, 1, 2, 3, 4, 5, 6, 7, 8, 9, 10], [0, 1, 2, 3, 4, 5, 6, 7, 8, 9, 10, 11]] qR ?_)
              all_goals first | (exfalso; omega) | skip
              refine ⟨q + 1, by omega, by omega, ?_⟩
              rw [hs]
              exact Wk.cq 4
            · obtain rfl : q = j := by omega
              refine AW.wk (Wk.freezeB 3 rfl 2 rfl (.cons (by first | exact .all (by first | rfl | (simp <;> fail) | (simp; omega)) | exact .nlt | exact .same _) (.cons (by first | exact .all (by first | rfl | (simp <;> fail) | (simp; omega)) | exact .nlt | exact .same _) (.cons (by first | exact .all (by first | rfl | (simp <;> fail) | (simp; omega)) | exact .nlt | exact .same _) (.cons (by first | exact .all (by first | rfl | (simp <;> fail) | (simp; omega)) | exact .nlt | exact .same _) (.nil))))) rfl) ?_
              repeat' (first | ((with_reducible refine kAL ?_); (first | refine A_mt rfl rfl rfl rfl ?_ | refine A_store rfl rfl 34 _ _ rfl inf34 rfl rfl rfl rfl (Nat.le_of_ble_eq_true rfl) qN qN ?_ | refine A_field rfl rfl 24 _ 1 rfl ud24 rfl inf3 (by decide) 1 rfl rfl ?_ | refine A_load rfl rfl 3 _ rfl ud3 rfl rfl rfl rfl ?_ | refine A_cmp (d := 155) rfl rfl (c := false) .lss 3 3 _ _ rfl rfl rfl (by exact congrArg some (decide_eq_false (by (try (dsimp only; fail_if_success done)); omega))) ?_ | refine A_load_agg rfl rfl 34 _ rfl ud34 rfl inf34 rfl rfl (us' := [_, _, _, _]) rfl rfl ?_ | refine AL.nil ?_)) | (with_reducible (first | refine wk0 ?_ | refine wk2 ?_ | refine wk4 ?_ | refine wk7 ?_ | refine wk9 ?_ | refine wkb ?_ | refine wkc ?_)) | refine kcf rfl ?_ | with_reducible refine AW.at_region _ ?_)
              all_goals first | (exfalso; omega) | (exact Fin.q Try.results106 (.cons (.agg rfl rfl ud34 rfl inf34 (us := [_, _, _, _]) rfl rfl) .nil) [])
end Go.Proofs.Ytijaphlmomcbfaa
