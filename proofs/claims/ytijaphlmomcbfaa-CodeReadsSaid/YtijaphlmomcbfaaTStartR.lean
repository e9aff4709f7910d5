/- Halls at first: the reference's Start. -/
import Derived.Test.YtijaphlmomcbfaaTFits
import Derived.Test.YtijaphlmomcbfaaTIoR
namespace Go.Proofs.Ytijaphlmomcbfaa
set_option linter.unusedVariables false
set_option linter.unusedSimpArgs false
set_option linter.unnecessarySimpa false
open Go.RowKit
set_option maxHeartbeats 32000000
attribute [local irreducible] AL AW RG Fin C Cd Cio thenQ blockQ retQ
set_option maxRecDepth 100000
def z0C : DChan := ⟨0, 0, false, false, []⟩
def stC (s : List Int) (p i : Nat) : List DChan := (List.range p).map fun j => if j < i ∧ j < s.length then ⟨1, s.getD j 0, true, false, []⟩ else ⟨0, 0, false, false, []⟩
theorem stC_len (s : List Int) (p i : Nat) : (stC s p i).length = p := by simp [stC]
theorem stC_get (s : List Int) {p i j : Nat} (h : j < p) : (stC s p i)[j]? = some (if j < i ∧ j < s.length then ⟨1, s.getD j 0, true, false, []⟩ else ⟨0, 0, false, false, []⟩) := by unfold stC; rw [List.getElem?_map, List.getElem?_range h]; rfl
theorem stC_zero (s : List Int) (p : Nat) : stC s p 0 = List.replicate p ⟨0, 0, false, false, []⟩ := by
  refine List.ext_getElem? fun j => ?_
  by_cases h : j < p
  · rw [stC_get s h, List.getElem?_replicate, if_pos h, if_neg (by omega)]
  · rw [List.getElem?_eq_none (by rw [stC_len]; omega), List.getElem?_eq_none (by simp; omega)]
theorem stC_next {s : List Int} {p i : Nat} {x : Int} (hi : i < p) (hx : s[i]? = some x) : stC s p (i + 1) = (stC s p i).set i ⟨1, x, true, false, []⟩ := by
  have hl := get_lt hx
  refine List.ext_getElem? fun j => ?_
  rw [List.getElem?_set]
  by_cases h : j < p
  · rw [stC_get s h, stC_get s h, stC_len]
    by_cases e : i = j
    · subst e
      rw [if_pos rfl, if_pos hi, if_pos ⟨by omega, hl⟩, List.getD_eq_getElem?_getD, hx]; rfl
    · rw [if_neg e]
      by_cases q : j < i ∧ j < s.length
      · rw [if_pos q, if_pos ⟨by omega, q.2⟩]
      · rw [if_neg q, if_neg (by omega)]
  · rw [List.getElem?_eq_none (by rw [stC_len]; omega), if_neg (by omega), List.getElem?_eq_none (by rw [stC_len]; omega)]
theorem stC_end {s : List Int} {p i : Nat} (h : ¬ (i < p ∧ i < s.length)) (hp : i ≤ p) : stC s p i = stC s p p := by
  refine List.ext_getElem? fun j => ?_
  by_cases hj : j < p
  · rw [stC_get s hj, stC_get s hj]
    by_cases q : j < s.length
    · by_cases e : j < i
      · rw [if_pos ⟨e, q⟩, if_pos ⟨hj, q⟩]
      · omega
    · rw [if_neg (by omega), if_neg (by omega)]
  · rw [List.getElem?_eq_none (by rw [stC_len]; omega), List.getElem?_eq_none (by rw [stC_len]; omega)]
def plN (c : DConf) : Nat := (max 0 (min c.chans 8)).toNat
def thN (c : DConf) : Nat := (max 0 (min c.threads 64)).toNat
theorem plN_e (c : DConf) : ((plN c : Nat) : Int) = max 0 (min c.chans 8) ∧ plN c ≤ 8 := by unfold plN; omega
theorem thN_e (c : DConf) : ((thN c : Nat) : Int) = max 0 (min c.threads 64) ∧ thN c ≤ 64 := by unfold thN; omega
attribute [local irreducible] stC plN thN
set_option maxHeartbeats 8000000 in
theorem rstart_c (c : DConf) (hs0 : c.start.length ≤ 1152921504606846976) : Cd Try.prog 80 [aCf c] (.agg [i64 0, .sl 0 0 (plN c), .sl 1 0 (thN c), .sl 2 0 (thN c)]) [.row 0 83 5 ((stC c.start (plN c) (plN c)).map tCh), .row 0 92 4 ((List.replicate (thN c) (⟨false, 0, 0, []⟩ : DWait)).map tWt), .row 0 107 4 ((List.replicate (thN c) (⟨0, 0, 0, 0⟩ : Rst)).map tR)] := by
  have h1 : (c.start.map tI).length = c.start.length := List.length_map _
  obtain ⟨hp, hp8⟩ := plN_e c
  obtain ⟨ht, ht64⟩ := thN_e c
  refine Cd.enter' Try.func80 rfl Try.ntmps80 rfl ?_
  repeat' (first | ((with_reducible refine kAL ?_); (first | refine A_box rfl rfl 24 _ rfl rfl (.push qL qN) ?_ | refine A_alloc rfl rfl 34 rfl inf34 (cs := [.t (.v (.int .i64 0)), AV.nl, AV.nl, AV.nl]) rfl (.push qL qN) ?_ | refine A_as rfl rfl rfl rfl ?_ | refine AL.nil ?_)) | ((with_reducible refine kRG ?_); (first | (refine kR 772 rfl ?_; (first | refine R_field rfl rfl 24 _ 2 rfl ud24 rfl inf3 (by decide) 2 rfl rfl ?_ | refine R_field rfl rfl 24 _ 1 rfl ud24 rfl inf3 (by decide) 1 rfl rfl ?_)) | refine R_load rfl rfl 3 _ rfl ud3 rfl rfl rfl rfl ?_ | (refine kR 12 rfl ?_; (first | refine R_min rfl rfl _ _ _ rfl rfl rfl ?_ | refine R_max rfl rfl _ _ _ rfl rfl rfl ?_)) | refine R_as rfl rfl rfl rfl ?_ | refine R_mt rfl rfl rfl rfl ?_ | (refine kR 976 rfl ?_; refine R_make (N := 2) rfl rfl 30 _ _ rfl ud30 inf83 rfl (zs := [(.v (.int .i64 0)), (.v (.int .i64 0)), (.v (.bool false)), (.v (.bool false)), .lst []]) rfl rfl rfl (plN c) (by omega) (by omega) qB qB (by exact rep_map (f := tCh) (x := ⟨_, _, _, _, []⟩)) rfl qN ?_) | (refine kR 1008 rfl ?_; refine R_make (N := 3) rfl rfl 31 _ _ rfl ud31 inf92 rfl (zs := [(.v (.bool false)), (.v (.int .i64 0)), (.v (.int .i64 0)), .lst []]) rfl rfl rfl (thN c) (by omega) (by omega) qB qB (by exact rep_map (f := tWt) (x := ⟨_, _, _, []⟩)) rfl qN ?_) | (refine kR 1040 rfl ?_; refine R_make (N := 4) rfl rfl 32 _ _ rfl ud32 inf107 rfl (zs := [(.v (.int .i64 0)), (.v (.int .i64 0)), (.v (.int .i64 0)), (.v (.int .i64 0))]) rfl rfl rfl (thN c) (by omega) (by omega) qB qB (by exact rep_map (f := tR) (x := ⟨_, _, _, _⟩)) rfl qN ?_) | (refine kR 1102 rfl ?_; refine R_build rfl rfl 34 _ rfl ud34 inf34 [(0, 1), (1, 1), (2, 1), (3, 1)] (by kernel_rfl) (zs := [.t (.v (.int .i64 0)), AV.nl, AV.nl, AV.nl]) rfl (.cons rfl (.cons rfl (.cons rfl .nil))) (cs := [_, _, _, _]) rfl ?_) | refine R_alloc (N := 5) rfl rfl 34 rfl inf34 (cs := [.t (.v (.int .i64 0)), AV.nl, AV.nl, AV.nl]) rfl rfl qN ?_ | refine R_store rfl rfl 34 _ _ rfl inf34 rfl rfl rfl rfl (Nat.le_of_ble_eq_true rfl) qN qN ?_ | refine RG.nil ⟨by kernel_rfl, ?_⟩)) | (with_reducible (first | refine wk0 ?_ | refine wk1 ?_ | refine wk2 ?_)) | with_reducible refine AW.at_region _ ?_ | refine AW.at_draw 1 mixed 0 [[], [0], [0, 1], [0, 1, 2], [], [4], [4, 5], [4, 5, 6], [0, 1, 2, 3], [0, 1, 2, 3, 4, 5, 6, 7, 8]] qR ?_ | refine AW.at_draw 2 mixed 4 [[], [0], [], [2], [], [4], [0, 1, 2, 3, 4, 5], [], [0, 1, 2, 3, 4, 5, 6, 7]] qR ?_)
  all_goals first | (exfalso; omega) | skip
  refine AW.loopP (fun (i : Nat) => i ≤ plN c) (fun (i : Nat) => (pu (pu (pu (pu (pu (fun _ => .any) 1 (.ptr 0 0)) 2 (.ptr 1 0)) 3 (i64 (plN c))) 5 (.ptr 5 0)) 6 (i64 i))) (fun (i : Nat) => [.box 24 [i64 c.kind, i64 c.threads, i64 c.chans, i64 c.cap, i64 c.nodes, i64 c.retire, i64 c.patience, i64 c.tags, i64 c.seqs, i64 c.gens, .ln (c.start.map tI)], .box 34 [i64 0, .nl, .nl, .nl], .row 0 83 5 ((stC c.start (plN c) i).map tCh), .row 0 92 4 ((List.replicate (thN c) (⟨false, 0, 0, []⟩ : DWait)).map tWt), .row 0 107 4 ((List.replicate (thN c) (⟨0, 0, 0, 0⟩ : Rst)).map tR), .box 34 [i64 0, .sl 2 0 (plN c), .sl 3 0 (thN c), .sl 4 0 (thN c)]]) (fun (i : Nat) => plN c - i) (0) ?_ ?_ ?_
  · exact Nat.zero_le _
  · rw [stC_zero, hp]
    exact Wk.cq 6
  · intro i hi
    have hL := stC_len c.start (plN c) i
    by_cases hc1 : i < plN c ∧ i < c.start.length
    · obtain ⟨x, hx⟩ : ∃ x, c.start[i]? = some x := ⟨_, List.getElem?_eq_getElem hc1.2⟩
      have hg : (stC c.start (plN c) i)[i]? = some ⟨0, 0, false, false, []⟩ := by rw [stC_get _ hc1.1, if_neg (by omega)]
      have hg1 : ((stC c.start (plN c) i).set i ⟨1, 0, false, false, []⟩)[i]? = some ⟨1, 0, false, false, []⟩ := by rw [List.getElem?_set, if_pos rfl, if_pos (by omega)]
      have hg2 : (((stC c.start (plN c) i).set i ⟨1, 0, false, false, []⟩).set i ⟨1, x, false, false, []⟩)[i]? = some ⟨1, x, false, false, []⟩ := by rw [List.getElem?_set, if_pos rfl, if_pos (by rw [List.length_set]; omega)]
      have hs : stC c.start (plN c) (i + 1) = (((stC c.start (plN c) i).set i ⟨1, 0, false, false, []⟩).set i ⟨1, x, false, false, []⟩).set i ⟨1, x, true, false, []⟩ := by rw [stC_next hc1.1 hx, List.set_set, List.set_set]
      generalize stC c.start (plN c) i = L0 at *
      clear hp ht hs0
      repeat' (first | ((with_reducible refine kAL ?_); (first | refine A_as rfl rfl rfl rfl ?_ | refine A_mt rfl rfl rfl rfl ?_ | (refine kL 105 rfl ?_; (first | refine A_cmp (d := 24) rfl rfl (c := true) .lss 3 3 _ _ rfl rfl rfl (by exact congrArg some (decide_eq_true (by (try (dsimp only; fail_if_success done)); omega))) ?_ | refine A_cmp (d := 30) rfl rfl (c := true) .lss 3 3 _ _ rfl rfl rfl (by exact congrArg some (decide_eq_true (by (try (dsimp only; fail_if_success done)); omega))) ?_ | refine A_add rfl rfl 3 3 _ _ rfl rfl rfl (by exact wi) ?_)) | refine A_field rfl rfl 24 _ 10 rfl ud24 rfl inf22 (by decide) 10 rfl rfl ?_ | refine A_load rfl rfl 22 _ rfl ud22 rfl rfl rfl rfl ?_ | refine A_len rfl rfl 22 _ rfl ud22 rfl ?_ | (refine kL 19 rfl ?_; refine A_pkt rfl rfl _ _ _ rfl rfl rfl ?_) | refine A_field rfl rfl 34 _ 1 rfl ud34 rfl inf30 (by decide) 1 rfl rfl ?_ | refine A_load rfl rfl 30 _ rfl ud30 rfl rfl rfl rfl ?_ | (refine kL 966 rfl ?_; refine A_idx_sl rfl rfl 30 _ _ rfl ud30 inf83 rfl rfl (by (simp; omega)) rfl (by omega) _ (by with_reducible exact Int.toNat_natCast _) (by omega) ?_) | (refine kL 2660 rfl ?_; (first | refine A_field rfl rfl 83 _ 0 rfl ud83 rfl inf3 (by decide) 0 rfl rfl ?_ | refine A_field rfl rfl 83 _ 2 rfl ud83 rfl inf4 (by decide) 2 rfl rfl ?_)) | (refine kL 99 rfl ?_; refine A_store_rp rfl rfl 3 _ _ rfl inf3 (by decide) rfl rfl (by exact map_get (by assumption)) rfl rfl rfl (Nat.le_of_ble_eq_true rfl) (by exact map_set (f := tCh) (x := ⟨1, 0, false, false, []⟩)) qN ?_) | (refine kL 131 rfl ?_; refine A_store_rp rfl rfl 4 _ _ rfl inf4 (by decide) rfl rfl (by exact map_get (by assumption)) rfl rfl rfl (Nat.le_of_ble_eq_true rfl) (by exact map_set (f := tCh) (x := ⟨1, x, true, false, []⟩)) qN ?_) | refine AL.nil ?_)) | ((with_reducible refine kRG ?_); (first | refine R_field rfl rfl 24 _ 10 rfl ud24 rfl inf22 (by decide) 10 rfl rfl ?_ | refine R_load_lp rfl rfl 3 _ rfl ud3 rfl rfl rfl ?_ | refine R_mt rfl rfl rfl rfl ?_ | refine R_field rfl rfl 34 _ 1 rfl ud34 rfl inf30 (by decide) 1 rfl rfl ?_ | refine R_load rfl rfl 30 _ rfl ud30 rfl rfl rfl rfl ?_ | refine R_load rfl rfl 22 _ rfl ud22 rfl rfl rfl rfl ?_ | (refine kR 710 rfl ?_; refine R_idx rfl rfl 22 _ _ rfl ud22 inf3 (by decide) (by exact .inl rfl) rfl (by omega) _ (by with_reducible exact Int.toNat_natCast _) (by exact map_get (by assumption)) rfl (cs' := [_]) rfl ?_) | (refine kR 966 rfl ?_; refine R_idx_sl rfl rfl 30 _ _ rfl ud30 inf83 rfl rfl (by (simp; omega)) rfl (by omega) _ (by with_reducible exact Int.toNat_natCast _) (by omega) ?_) | refine R_field rfl rfl 83 _ 1 rfl ud83 rfl inf3 (by decide) 1 rfl rfl ?_ | (refine kR 99 rfl ?_; refine R_store_rp rfl rfl 3 _ _ rfl inf3 (by decide) rfl rfl (by exact map_get (by assumption)) rfl rfl rfl (Nat.le_of_ble_eq_true rfl) (by exact map_set (f := tCh) (x := ⟨1, x, false, false, []⟩)) qN ?_) | refine RG.nil ⟨by kernel_rfl, ?_⟩)) | (with_reducible (first | refine wk0 ?_ | refine wk1 ?_ | refine wk2 ?_ | refine wk5 ?_ | refine wkd ?_)) | refine kct rfl ?_ | with_reducible refine AW.at_region _ ?_ | refine AW.at_draw 7 mixed 0 [[], [0], [], [], [3], [], [3, 4, 5], [3, 4, 5, 6], [0, 1, 2, 3, 4, 5, 6, 7], [0, 1, 2, 3, 4, 5, 6, 7, 8], [0, 1, 2, 3, 4, 5, 6, 7, 8, 9]] qR ?_)
      all_goals first | (exfalso; omega) | skip
      refine ⟨i + 1, by omega, by omega, ?_⟩
      rw [hs]
      exact Wk.cq 6
    · rw [← stC_end hc1 hi]
      repeat' (first | ((with_reducible refine kAL ?_); (first | refine A_mt rfl rfl rfl rfl ?_ | (refine kL 105 rfl ?_; (first | refine A_cmp (d := 30) rfl rfl (c := false) .lss 3 3 _ _ rfl rfl rfl (by exact congrArg some (decide_eq_false (by (try (dsimp only; fail_if_success done)); omega))) ?_ | refine A_cmp (d := 24) rfl rfl .lss 3 3 _ _ rfl rfl rfl rfl ?_)) | refine A_field rfl rfl 24 _ 10 rfl ud24 rfl inf22 (by decide) 10 rfl rfl ?_ | refine A_load rfl rfl 22 _ rfl ud22 rfl rfl rfl rfl ?_ | refine A_len rfl rfl 22 _ rfl ud22 rfl ?_ | (refine kL 19 rfl ?_; (first | refine A_pkt rfl rfl _ _ _ rfl rfl rfl ?_ | refine A_pkf rfl rfl _ _ _ rfl rfl rfl ?_)) | refine A_load_agg rfl rfl 34 _ rfl ud34 rfl inf34 rfl rfl (us' := [_, _, _, _]) rfl rfl ?_ | refine A_store rfl rfl 34 _ _ rfl inf34 rfl rfl rfl rfl (Nat.le_of_ble_eq_true rfl) qN qN ?_ | refine AL.nil ?_ | refine AL.skip rfl rfl ?_ | (refine AL.split 25 rfl (fun hb => ?_) (fun hb => ?_) <;> (try simp only [decide_eq_true_eq, decide_eq_false_iff_not, Bool.not_eq_true', Bool.not_eq_false'] at hb) <;> (first | refine AL.skip rfl rfl ?_ | refine AL.need rfl ?_)))) | (with_reducible (first | refine wk0 ?_ | refine wk2 ?_ | refine wk4 ?_ | refine wk7 ?_ | refine wk9 ?_ | refine wkb ?_ | refine wkc ?_)) | refine kcf rfl ?_ | with_reducible refine AW.at_region _ ?_)
      all_goals first | (exfalso; omega) | (exact Fin.q Try.results80 (.cons (.agg rfl rfl ud34 rfl inf34 (us := [_, _, _, _]) rfl rfl) .nil) [2, 3, 4])
end Go.Proofs.Ytijaphlmomcbfaa
