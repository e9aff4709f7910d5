/- Joined: XTStartR, XTRunP, XTFits. -/
import Derived.Test.YtnfbggpkiekpdaaKR15h
import Derived.Test.YtnfbggpkiekpdaaKR15d
import Derived.Test.YtnfbggpkiekpdaaKR15k
import Derived.Test.YtnfbggpkiekpdaaKR15i
namespace Go.Proofs.Ytnfbggpkiekpdaa
open Go.RowKit
set_option linter.unusedVariables false
set_option linter.unusedSimpArgs false
set_option linter.unnecessarySimpa false
set_option maxRecDepth 100000
set_option maxHeartbeats 64000000
section
attribute [local irreducible] AL AW RG Fin C Cd Cio thenQ blockQ retQ
set_option maxRecDepth 100000
def stC (s : List Int) (p i : Nat) : List DChan := (List.range p).map fun j => if j < i ∧ j < s.length then ⟨1, s.getD j 0, true, false, []⟩ else ⟨0, 0, false, false, []⟩
theorem stC_len (s : List Int) (p i : Nat) : (stC s p i).length = p := by simp [stC]
theorem stC_get (s : List Int) {p i j : Nat} (h : j < p) : (stC s p i)[j]? = some (if j < i ∧ j < s.length then ⟨1, s.getD j 0, true, false, []⟩ else ⟨0, 0, false, false, []⟩) := by unfold stC; rw [List.getElem?_map, List.getElem?_range h]; rfl
theorem stC_zero (s : List Int) (p : Nat) : stC s p 0 = List.replicate p ⟨0, 0, false, false, []⟩ := by
 refine List.ext_getElem? fun j => ?_
 by_cases h : j < p
 ·rw [stC_get s h, List.getElem?_replicate, if_pos h, if_neg (by omega)]
 ·rw [List.getElem?_eq_none (by rw [stC_len]; omega), List.getElem?_eq_none (by simp; omega)]
theorem stC_next {s : List Int} {p i : Nat} {x : Int} (hi : i < p) (hx : s[i]? = some x) : stC s p (i + 1) = (stC s p i).set i ⟨1, x, true, false, []⟩ := by
 have hl := get_lt hx
 refine List.ext_getElem? fun j => ?_
 rw [List.getElem?_set]
 by_cases h : j < p
 ·rw [stC_get s h, stC_get s h, stC_len]
  by_cases e : i = j
  ·subst e
   rw [if_pos rfl, if_pos hi, if_pos ⟨by omega, hl⟩, List.getD_eq_getElem?_getD, hx]; rfl
  ·rw [if_neg e]
   by_cases q : j < i ∧ j < s.length
   ·rw [if_pos q, if_pos ⟨by omega, q.2⟩]
   ·rw [if_neg q, if_neg (by omega)]
 ·rw [List.getElem?_eq_none (by rw [stC_len]; omega), if_neg (by omega), List.getElem?_eq_none (by rw [stC_len]; omega)]
theorem stC_end {s : List Int} {p i : Nat} (h : ¬ (i < p ∧ i < s.length)) (hp : i ≤ p) : stC s p i = stC s p p := by
 refine List.ext_getElem? fun j => ?_
 by_cases hj : j < p
 ·rw [stC_get s hj, stC_get s hj]
  by_cases q : j < s.length
  ·by_cases e : j < i
   ·rw [if_pos ⟨e, q⟩, if_pos ⟨hj, q⟩]
   ·omega
  ·rw [if_neg (by omega), if_neg (by omega)]
 ·rw [List.getElem?_eq_none (by rw [stC_len]; omega), List.getElem?_eq_none (by rw [stC_len]; omega)]
def plN (c : DConf) : Nat := (max 0 (min c.chans 8)).toNat
def thN (c : DConf) : Nat := (max 0 (min c.threads 64)).toNat
theorem plN_e (c : DConf) : ((plN c : Nat) : Int) = max 0 (min c.chans 8) ∧ plN c ≤ 8 := by unfold plN; omega
theorem thN_e (c : DConf) : ((thN c : Nat) : Int) = max 0 (min c.threads 64) ∧ thN c ≤ 64 := by unfold thN; omega
attribute [local irreducible] stC plN thN
theorem rstart_c (c : DConf) (hs0 : c.start.length ≤ 1152921504606846976) : Cd Try.prog 105 [aCf c] (.agg [i64 0, .sl 0 0 (plN c), .sl 1 0 (thN c), .sl 2 0 (thN c)]) [.row 0 125 5 ((stC c.start (plN c) (plN c)).map tCh), .row 0 129 4 ((List.replicate (thN c) (⟨false, 0, 0, []⟩ : DWait)).map tWt), .row 0 71 4 ((List.replicate (thN c) (⟨0, 0, 0, 0⟩ : Rst)).map tR)] := by
 have h1 : (c.start.map tI).length = c.start.length := List.length_map _
 obtain ⟨hp, hp8⟩ := plN_e c
 obtain ⟨ht, ht64⟩ := thN_e c
 refine Cd.enter' Try.func105 rfl Try.ntmps105 rfl ?_
 repeat' (first | ((with_reducible refine kAL ?_); (first | (refine kL 99 rfl ?_; first | refine A_store_rp rfl rfl 3 _ _ rfl inf3 (by decide) rfl rfl (by first | exact map_get (by assumption) | assumption) rfl rfl rfl (Nat.le_of_ble_eq_true rfl) (by first | exact map_set (f := tCh) (x := ⟨_, _, _, _, []⟩) | exact map_set (f := tWt) (x := ⟨_, _, _, []⟩) | exact map_set (f := tR) (x := ⟨_, _, _, _⟩) | exact qN) qN ?_) | (refine kL 131 rfl ?_; first | refine A_store_rp rfl rfl 4 _ _ rfl inf4 (by decide) rfl rfl (by first | exact map_get (by assumption) | assumption) rfl rfl rfl (Nat.le_of_ble_eq_true rfl) (by first | exact map_set (f := tCh) (x := ⟨_, _, _, _, []⟩) | exact map_set (f := tWt) (x := ⟨_, _, _, []⟩) | exact map_set (f := tR) (x := ⟨_, _, _, _⟩) | exact qN) qN ?_) | (refine kL 3619 rfl ?_; first | refine A_store_rp rfl rfl 113 _ _ rfl inf113 (by decide) rfl rfl (by first | exact map_get (by assumption) | assumption) rfl rfl rfl (Nat.le_of_ble_eq_true rfl) (by first | exact map_set (f := tCh) (x := ⟨_, _, _, _, []⟩) | exact map_set (f := tWt) (x := ⟨_, _, _, []⟩) | exact map_set (f := tR) (x := ⟨_, _, _, _⟩) | exact qN) qN ?_) | refine uA ?_ | refine uS 25 (fun hb => ?_) (fun hb => ?_))) | ((with_reducible refine kRG ?_); (first | (refine kR 3536 rfl ?_; first | refine R_make rfl rfl 110 _ _ rfl ud110 inf125 rfl (zs := [(.v (.int .i64 0)), (.v (.int .i64 0)), (.v (.bool false)), (.v (.bool false)), .lst []]) rfl rfl rfl (plN c) (by first | rfl | assumption | omega) (by first | rfl | assumption | omega) qB qB (by first | exact rep_map (f := tCh) (x := ⟨_, _, _, _, []⟩) | exact rep_map (f := tWt) (x := ⟨_, _, _, []⟩) | exact rep_map (f := tR) (x := ⟨_, _, _, _⟩) | exact qN) qh qN ?_ | refine R_make rfl rfl 110 _ _ rfl ud110 inf125 rfl (zs := [(.v (.int .i64 0)), (.v (.int .i64 0)), (.v (.bool false)), (.v (.bool false)), .lst []]) rfl rfl rfl (thN c) (by first | rfl | assumption | omega) (by first | rfl | assumption | omega) qB qB (by first | exact rep_map (f := tCh) (x := ⟨_, _, _, _, []⟩) | exact rep_map (f := tWt) (x := ⟨_, _, _, []⟩) | exact rep_map (f := tR) (x := ⟨_, _, _, _⟩) | exact qN) qh qN ?_ | refine R_make rfl rfl 110 _ _ rfl ud110 inf125 rfl (zs := [(.v (.int .i64 0)), (.v (.int .i64 0)), (.v (.bool false)), (.v (.bool false)), .lst []]) rfl rfl rfl _ (by first | rfl | assumption | omega) (by first | rfl | assumption | omega) qB qB (by first | exact rep_map (f := tCh) (x := ⟨_, _, _, _, []⟩) | exact rep_map (f := tWt) (x := ⟨_, _, _, []⟩) | exact rep_map (f := tR) (x := ⟨_, _, _, _⟩) | exact qN) qh qN ?_) | (refine kR 3568 rfl ?_; first | refine R_make rfl rfl 111 _ _ rfl ud111 inf129 rfl (zs := [(.v (.bool false)), (.v (.int .i64 0)), (.v (.int .i64 0)), .lst []]) rfl rfl rfl (plN c) (by first | rfl | assumption | omega) (by first | rfl | assumption | omega) qB qB (by first | exact rep_map (f := tCh) (x := ⟨_, _, _, _, []⟩) | exact rep_map (f := tWt) (x := ⟨_, _, _, []⟩) | exact rep_map (f := tR) (x := ⟨_, _, _, _⟩) | exact qN) qh qN ?_ | refine R_make rfl rfl 111 _ _ rfl ud111 inf129 rfl (zs := [(.v (.bool false)), (.v (.int .i64 0)), (.v (.int .i64 0)), .lst []]) rfl rfl rfl (thN c) (by first | rfl | assumption | omega) (by first | rfl | assumption | omega) qB qB (by first | exact rep_map (f := tCh) (x := ⟨_, _, _, _, []⟩) | exact rep_map (f := tWt) (x := ⟨_, _, _, []⟩) | exact rep_map (f := tR) (x := ⟨_, _, _, _⟩) | exact qN) qh qN ?_ | refine R_make rfl rfl 111 _ _ rfl ud111 inf129 rfl (zs := [(.v (.bool false)), (.v (.int .i64 0)), (.v (.int .i64 0)), .lst []]) rfl rfl rfl _ (by first | rfl | assumption | omega) (by first | rfl | assumption | omega) qB qB (by first | exact rep_map (f := tCh) (x := ⟨_, _, _, _, []⟩) | exact rep_map (f := tWt) (x := ⟨_, _, _, []⟩) | exact rep_map (f := tR) (x := ⟨_, _, _, _⟩) | exact qN) qh qN ?_) | (refine kR 1136 rfl ?_; first | refine R_make rfl rfl 35 _ _ rfl ud35 inf71 rfl (zs := [(.v (.int .i64 0)), (.v (.int .i64 0)), (.v (.int .i64 0)), (.v (.int .i64 0))]) rfl rfl rfl (plN c) (by first | rfl | assumption | omega) (by first | rfl | assumption | omega) qB qB (by first | exact rep_map (f := tCh) (x := ⟨_, _, _, _, []⟩) | exact rep_map (f := tWt) (x := ⟨_, _, _, []⟩) | exact rep_map (f := tR) (x := ⟨_, _, _, _⟩) | exact qN) qh qN ?_ | refine R_make rfl rfl 35 _ _ rfl ud35 inf71 rfl (zs := [(.v (.int .i64 0)), (.v (.int .i64 0)), (.v (.int .i64 0)), (.v (.int .i64 0))]) rfl rfl rfl (thN c) (by first | rfl | assumption | omega) (by first | rfl | assumption | omega) qB qB (by first | exact rep_map (f := tCh) (x := ⟨_, _, _, _, []⟩) | exact rep_map (f := tWt) (x := ⟨_, _, _, []⟩) | exact rep_map (f := tR) (x := ⟨_, _, _, _⟩) | exact qN) qh qN ?_ | refine R_make rfl rfl 35 _ _ rfl ud35 inf71 rfl (zs := [(.v (.int .i64 0)), (.v (.int .i64 0)), (.v (.int .i64 0)), (.v (.int .i64 0))]) rfl rfl rfl _ (by first | rfl | assumption | omega) (by first | rfl | assumption | omega) qB qB (by first | exact rep_map (f := tCh) (x := ⟨_, _, _, _, []⟩) | exact rep_map (f := tWt) (x := ⟨_, _, _, []⟩) | exact rep_map (f := tR) (x := ⟨_, _, _, _⟩) | exact qN) qh qN ?_) | (refine kR 3619 rfl ?_; first | refine R_store_rp rfl rfl 113 _ _ rfl inf113 (by decide) rfl rfl (by first | exact map_get (by assumption) | assumption) rfl rfl rfl (Nat.le_of_ble_eq_true rfl) (by first | exact map_set (f := tCh) (x := ⟨_, _, _, _, []⟩) | exact map_set (f := tWt) (x := ⟨_, _, _, []⟩) | exact map_set (f := tR) (x := ⟨_, _, _, _⟩) | exact qN) qN ?_) | (refine kR 99 rfl ?_; first | refine R_store_rp rfl rfl 3 _ _ rfl inf3 (by decide) rfl rfl (by first | exact map_get (by assumption) | assumption) rfl rfl rfl (Nat.le_of_ble_eq_true rfl) (by first | exact map_set (f := tCh) (x := ⟨_, _, _, _, []⟩) | exact map_set (f := tWt) (x := ⟨_, _, _, []⟩) | exact map_set (f := tR) (x := ⟨_, _, _, _⟩) | exact qN) qN ?_) | refine uR ?_)) | refine uC ?_ | refine kcp rfl (fun hc => ?_) (fun hc => ?_) | refine kcn rfl (fun hc => ?_) (fun hc => ?_) | refine kcb rfl (fun hc => ?_) (fun hc => ?_) | refine kcc rfl (fun hc => ?_) (fun hc => ?_) | refine AW.drawU (id := 1) mixed 0 qR ?_ | refine AW.drawU (id := 2) mixed 4 qR ?_ | refine AW.drawU (id := 7) mixed 0 qR ?_ | fail)
 all_goals first | (exfalso; omega) | skip
 refine AW.loopP (fun (i : Nat) => i ≤ plN c) (fun (i : Nat) => (pu (pu (pu (pu (pu (fun _ => .any) 1 (.ptr 0 0)) 2 (.ptr 1 0)) 3 (i64 (plN c))) 5 (.ptr 5 0)) 6 (i64 i))) (fun (i : Nat) => [.box 24 [i64 c.kind, i64 c.threads, i64 c.chans, i64 c.cap, i64 c.nodes, i64 c.retire, i64 c.patience, i64 c.tags, i64 c.seqs, i64 c.gens, .ln (c.start.map tI)], .box 113 [i64 0, .nl, .nl, .nl], .row 0 125 5 ((stC c.start (plN c) i).map tCh), .row 0 129 4 ((List.replicate (thN c) (⟨false, 0, 0, []⟩ : DWait)).map tWt), .row 0 71 4 ((List.replicate (thN c) (⟨0, 0, 0, 0⟩ : Rst)).map tR), .box 113 [i64 0, .sl 2 0 (plN c), .sl 3 0 (thN c), .sl 4 0 (thN c)]]) (fun (i : Nat) => plN c - i) (0) ?_ ?_ ?_
 ·exact Nat.zero_le _
 ·rw [stC_zero, hp]
  exact Wk.cq 6
 ·intro i hi
  have hL := stC_len c.start (plN c) i
  by_cases hc1 : i < plN c ∧ i < c.start.length
  ·obtain ⟨x, hx⟩ : ∃ x, c.start[i]? = some x := ⟨_, List.getElem?_eq_getElem hc1.2⟩
   have hg : (stC c.start (plN c) i)[i]? = some ⟨0, 0, false, false, []⟩ := by rw [stC_get _ hc1.1, if_neg (by omega)]
   have hg1 : ((stC c.start (plN c) i).set i ⟨1, 0, false, false, []⟩)[i]? = some ⟨1, 0, false, false, []⟩ := by rw [List.getElem?_set, if_pos rfl, if_pos (by omega)]
   have hg2 : (((stC c.start (plN c) i).set i ⟨1, 0, false, false, []⟩).set i ⟨1, x, false, false, []⟩)[i]? = some ⟨1, x, false, false, []⟩ := by rw [List.getElem?_set, if_pos rfl, if_pos (by rw [List.length_set]; omega)]
   have hs : stC c.start (plN c) (i + 1) = (((stC c.start (plN c) i).set i ⟨1, 0, false, false, []⟩).set i ⟨1, x, false, false, []⟩).set i ⟨1, x, true, false, []⟩ := by rw [stC_next hc1.1 hx, List.set_set, List.set_set]
   generalize stC c.start (plN c) i = L0 at *
   clear hp ht hs0
   repeat' (first | ((with_reducible refine kAL ?_); (first | (refine kL 99 rfl ?_; first | refine A_store_rp rfl rfl 3 _ _ rfl inf3 (by decide) rfl rfl (by first | exact map_get (by assumption) | assumption | exact map_get hg2 | exact map_get hg1 | exact map_get hg | exact map_get hx) rfl rfl rfl (Nat.le_of_ble_eq_true rfl) (by first | exact map_set (f := tCh) (x := ⟨1, 0, false, false, []⟩) | exact map_set (f := tCh) (x := ⟨1, x, false, false, []⟩) | exact map_set (f := tCh) (x := ⟨1, x, true, false, []⟩) | exact qN) qN ?_) | (refine kL 131 rfl ?_; first | refine A_store_rp rfl rfl 4 _ _ rfl inf4 (by decide) rfl rfl (by first | exact map_get (by assumption) | assumption | exact map_get hg2 | exact map_get hg1 | exact map_get hg | exact map_get hx) rfl rfl rfl (Nat.le_of_ble_eq_true rfl) (by first | exact map_set (f := tCh) (x := ⟨1, 0, false, false, []⟩) | exact map_set (f := tCh) (x := ⟨1, x, false, false, []⟩) | exact map_set (f := tCh) (x := ⟨1, x, true, false, []⟩) | exact qN) qN ?_) | (refine kL 3619 rfl ?_; first | refine A_store_rp rfl rfl 113 _ _ rfl inf113 (by decide) rfl rfl (by first | exact map_get (by assumption) | assumption | exact map_get hg2 | exact map_get hg1 | exact map_get hg | exact map_get hx) rfl rfl rfl (Nat.le_of_ble_eq_true rfl) (by first | exact map_set (f := tCh) (x := ⟨1, 0, false, false, []⟩) | exact map_set (f := tCh) (x := ⟨1, x, false, false, []⟩) | exact map_set (f := tCh) (x := ⟨1, x, true, false, []⟩) | exact qN) qN ?_) | refine uA ?_ | refine uS 25 (fun hb => ?_) (fun hb => ?_))) | ((with_reducible refine kRG ?_); (first | (refine kR 3536 rfl ?_; first | refine R_make rfl rfl 110 _ _ rfl ud110 inf125 rfl (zs := [(.v (.int .i64 0)), (.v (.int .i64 0)), (.v (.bool false)), (.v (.bool false)), .lst []]) rfl rfl rfl _ (by first | rfl | assumption | omega) (by first | rfl | assumption | omega) qB qB (by first | exact rep_map (f := tCh) (x := ⟨1, 0, false, false, []⟩) | exact rep_map (f := tCh) (x := ⟨1, x, false, false, []⟩) | exact rep_map (f := tCh) (x := ⟨1, x, true, false, []⟩) | exact qN) qh qN ?_) | (refine kR 3568 rfl ?_; first | refine R_make rfl rfl 111 _ _ rfl ud111 inf129 rfl (zs := [(.v (.bool false)), (.v (.int .i64 0)), (.v (.int .i64 0)), .lst []]) rfl rfl rfl _ (by first | rfl | assumption | omega) (by first | rfl | assumption | omega) qB qB (by first | exact rep_map (f := tCh) (x := ⟨1, 0, false, false, []⟩) | exact rep_map (f := tCh) (x := ⟨1, x, false, false, []⟩) | exact rep_map (f := tCh) (x := ⟨1, x, true, false, []⟩) | exact qN) qh qN ?_) | (refine kR 1136 rfl ?_; first | refine R_make rfl rfl 35 _ _ rfl ud35 inf71 rfl (zs := [(.v (.int .i64 0)), (.v (.int .i64 0)), (.v (.int .i64 0)), (.v (.int .i64 0))]) rfl rfl rfl _ (by first | rfl | assumption | omega) (by first | rfl | assumption | omega) qB qB (by first | exact rep_map (f := tCh) (x := ⟨1, 0, false, false, []⟩) | exact rep_map (f := tCh) (x := ⟨1, x, false, false, []⟩) | exact rep_map (f := tCh) (x := ⟨1, x, true, false, []⟩) | exact qN) qh qN ?_) | (refine kR 3619 rfl ?_; first | refine R_store_rp rfl rfl 113 _ _ rfl inf113 (by decide) rfl rfl (by first | exact map_get (by assumption) | assumption | exact map_get hg2 | exact map_get hg1 | exact map_get hg | exact map_get hx) rfl rfl rfl (Nat.le_of_ble_eq_true rfl) (by first | exact map_set (f := tCh) (x := ⟨1, 0, false, false, []⟩) | exact map_set (f := tCh) (x := ⟨1, x, false, false, []⟩) | exact map_set (f := tCh) (x := ⟨1, x, true, false, []⟩) | exact qN) qN ?_) | (refine kR 99 rfl ?_; first | refine R_store_rp rfl rfl 3 _ _ rfl inf3 (by decide) rfl rfl (by first | exact map_get (by assumption) | assumption | exact map_get hg2 | exact map_get hg1 | exact map_get hg | exact map_get hx) rfl rfl rfl (Nat.le_of_ble_eq_true rfl) (by first | exact map_set (f := tCh) (x := ⟨1, 0, false, false, []⟩) | exact map_set (f := tCh) (x := ⟨1, x, false, false, []⟩) | exact map_set (f := tCh) (x := ⟨1, x, true, false, []⟩) | exact qN) qN ?_) | refine uR ?_)) | refine uC ?_ | refine kcp rfl (fun hc => ?_) (fun hc => ?_) | refine kcn rfl (fun hc => ?_) (fun hc => ?_) | refine kcb rfl (fun hc => ?_) (fun hc => ?_) | refine kcc rfl (fun hc => ?_) (fun hc => ?_) | refine AW.drawU (id := 1) mixed 0 qR ?_ | refine AW.drawU (id := 2) mixed 4 qR ?_ | refine AW.drawU (id := 7) mixed 0 qR ?_ | fail)
   all_goals first | (exfalso; omega) | skip
   refine ⟨i + 1, by omega, by omega, ?_⟩
   rw [hs]
   exact Wk.cq 6
  ·rw [← stC_end hc1 hi]
   repeat' (first | ((with_reducible refine kAL ?_); (first | refine uA ?_ | refine uS 25 (fun hb => ?_) (fun hb => ?_))) | ((with_reducible refine kRG ?_); (first | (refine kR 3536 rfl ?_; first | refine R_make rfl rfl 110 _ _ rfl ud110 inf125 rfl (zs := [(.v (.int .i64 0)), (.v (.int .i64 0)), (.v (.bool false)), (.v (.bool false)), .lst []]) rfl rfl rfl _ (by first | rfl | assumption | omega) (by first | rfl | assumption | omega) qB qB (by first | exact qN) qh qN ?_) | (refine kR 3568 rfl ?_; first | refine R_make rfl rfl 111 _ _ rfl ud111 inf129 rfl (zs := [(.v (.bool false)), (.v (.int .i64 0)), (.v (.int .i64 0)), .lst []]) rfl rfl rfl _ (by first | rfl | assumption | omega) (by first | rfl | assumption | omega) qB qB (by first | exact qN) qh qN ?_) | (refine kR 1136 rfl ?_; first | refine R_make rfl rfl 35 _ _ rfl ud35 inf71 rfl (zs := [(.v (.int .i64 0)), (.v (.int .i64 0)), (.v (.int .i64 0)), (.v (.int .i64 0))]) rfl rfl rfl _ (by first | rfl | assumption | omega) (by first | rfl | assumption | omega) qB qB (by first | exact qN) qh qN ?_) | refine uR ?_)) | refine uC ?_ | refine kcp rfl (fun hc => ?_) (fun hc => ?_) | refine kcn rfl (fun hc => ?_) (fun hc => ?_) | refine kcb rfl (fun hc => ?_) (fun hc => ?_) | refine kcc rfl (fun hc => ?_) (fun hc => ?_) | refine AW.drawU (id := 1) mixed 0 qR ?_ | refine AW.drawU (id := 2) mixed 4 qR ?_ | refine AW.drawU (id := 7) mixed 0 qR ?_ | fail)
   all_goals first | (exfalso; omega) | (exact Fin.q Try.results105 (.cons (.agg rfl rfl ud113 rfl inf113 (us := [_, _, _, _]) rfl rfl) .nil) [2, 3, 4])
end
section
def startH (c : DConf) : DHall := ⟨0, stC c.start (plN c) (plN c), List.replicate (thN c) ⟨false, 0, 0, []⟩, List.replicate (thN c) ⟨0, 0, 0, 0⟩⟩
theorem stC_mem {s : List Int} {p i : Nat} {x : DChan} (h : x ∈ stC s p i) : x.buf = [] ∧ (x.gen = 0 ∨ x.gen = 1) := by
 unfold stC at h
 obtain ⟨j, -, rfl⟩ := List.mem_map.1 h
 split <;> simp
theorem startH_bd (c : DConf) : HBd 0 (startH c) := by
 refine ⟨⟨Int.le_refl _, Int.le_refl _⟩, fun x hx => ?_, fun x hx => ?_, ⟨fun w hw => ?_, fun w hw _ => ?_⟩⟩
 ·rw [(stC_mem hx).1]; exact Nat.zero_le _
 ·rcases (stC_mem hx).2 with e | e <;> omega
 ·rw [List.eq_of_mem_replicate hw]; exact Nat.zero_le _
 ·rw [List.eq_of_mem_replicate hw]; rfl
theorem startH_ln (c : DConf) : Ln (plN c) (thN c) (startH c) := ⟨stC_len _ _ _, List.length_replicate, List.length_replicate⟩
theorem startH_ok (c : DConf) : okHl (startH c) := (startH_bd c).ok (startH_ln c) (by decide) (by have := (plN_e c).2; omega) (by have := (thN_e c).2; omega)
end
section
attribute [local irreducible] AL AW RG Fin C Cd Cio thenQ blockQ retQ
set_option maxRecDepth 100000
theorem fitI_in (n M m : Int) (h : M = m + 1) : fitI n M = inI n 0 m := by unfold fitI inI; exact decide_eq_decide.2 (by omega)
theorem values1_c (n : Int) : Cd Try.prog 140 [i64 n] (bo (!inI n 0 4294967295)) [] := by
 have c1 := in_c n 0 4294967295
 generalize inI n 0 4294967295 = b at c1
 refine Cd.enter' Try.func140 rfl Try.ntmps140 rfl ?_
 repeat' (first | ((with_reducible refine kAL ?_); (first | (refine kL 3114 rfl ?_; first | refine uK (c1) ?_) | refine uA ?_)) | refine uC ?_ | fail)
 all_goals first | (exfalso; omega) | (exact Fin.q Try.results140 (.cons (.tmp rfl) .nil) [])
theorem done1_c (r : Rst) : Cd Try.prog 136 [aR r] (bo (!goodR r)) [] := by
 have c1 := pgood_c r
 generalize goodR r = b at c1
 refine Cd.enter' Try.func136 rfl Try.ntmps136 rfl ?_
 repeat' (first | ((with_reducible refine kAL ?_); (first | (refine kL 4394 rfl ?_; first | refine uK (c1) ?_) | refine uA ?_)) | refine uC ?_ | fail)
 all_goals first | (exfalso; omega) | (exact Fin.q Try.results136 (.cons (.tmp rfl) .nil) [])
theorem values_c (l : List Int) (m : Int) (hl : l.length ≤ 1152921504606846976) : Cd Try.prog 130 [.ln (l.map tI), i64 m] (bo (valsOK l m)) [] := by
 have cF := conFI_c 140 [] [] (fun n => !inI n 0 4294967295) l (fun n _ => ⟨_, _, [], [], rfl, Try.func140, by kernel_rfl, by kernel_rfl, fun _ => .nil, fun _ => .nil, values1_c n⟩) rfl (fun _ _ => .fnL .nil .nil) hl
 have h1 : (l.map tI).length = l.length := List.length_map _
 unfold valsOK
 rw [List.all_eq_not_any_not]
 generalize (l.any fun n => !inI n 0 4294967295) = b at *
 by_cases e : (l.length : Int) ≤ m
 ·rw [decide_eq_true e]
  refine Cd.enter' Try.func130 rfl Try.ntmps130 rfl ?_
  repeat' (first | ((with_reducible refine kAL ?_); (first | (refine kL 3498 rfl ?_; first | refine uK (cF) ?_) | refine uA ?_)) | refine uC ?_ | fail)
  all_goals first | (exfalso; omega) | (exact Fin.q Try.results130 (.cons (.tmp rfl) .nil) [])
 ·rw [decide_eq_false e]
  refine Cd.enter' Try.func130 rfl Try.ntmps130 rfl ?_
  repeat' (first | refine uA ?_ | refine uC ?_ | fail)
  all_goals first | (exfalso; omega) | (exact Fin.q Try.results130 (.cons (.tmp rfl) .nil) [])
theorem done_c (l : List Rst) (m : Int) (hl : l.length ≤ 1152921504606846976) : Cd Try.prog 122 [.ln (l.map tR), i64 m] (bo (resOK l m)) [] := by
 have cF := conFR_c 136 [] [] (fun r => !goodR r) l (fun r _ => ⟨_, _, [], [], rfl, Try.func136, by kernel_rfl, by kernel_rfl, fun _ => .nil, fun _ => .nil, done1_c r⟩) rfl (fun _ _ => .fnL .nil .nil) hl
 have h1 : (l.map tR).length = l.length := List.length_map _
 unfold resOK
 rw [List.all_eq_not_any_not]
 generalize (l.any fun n => !goodR n) = b at *
 by_cases e : (l.length : Int) = m
 ·rw [decide_eq_true e]
  refine Cd.enter' Try.func122 rfl Try.ntmps122 rfl ?_
  repeat' (first | ((with_reducible refine kAL ?_); (first | (refine kL 4330 rfl ?_; first | refine uK (cF) ?_) | refine uA ?_)) | refine uC ?_ | fail)
  all_goals first | (exfalso; omega) | (exact Fin.q Try.results122 (.cons (.tmp rfl) .nil) [])
 ·rw [decide_eq_false e]
  refine Cd.enter' Try.func122 rfl Try.ntmps122 rfl ?_
  repeat' (first | refine uA ?_ | refine uC ?_ | fail)
  all_goals first | (exfalso; omega) | (exact Fin.q Try.results122 (.cons (.tmp rfl) .nil) [])
theorem channel_c (c : DConf) (x : DChan) (hl : x.buf.length ≤ 1152921504606846976) : Cd Try.prog 125 [aCf c, aCh x] (bo (chanOK c.cap x)) [] := by
 have c1 := in_c x.gen 0 4095
 have c2 := in_c x.cap 0 c.cap
 have c3 := values_c x.buf x.cap hl
 unfold chanOK
 generalize inI x.gen 0 4095 = b1 at *
 generalize inI x.cap 0 c.cap = b2 at *
 generalize valsOK x.buf x.cap = b3 at *
 obtain ⟨g, k, u, cl, buf⟩ := x
 dsimp only at c1 c2 c3 ⊢
 have cs : b1 = false ∨ (b1 = true ∧ b2 = false) ∨ (b1 = true ∧ b2 = true ∧ b3 = false) ∨ (b1 = true ∧ b2 = true ∧ b3 = true ∧ u = true) ∨ (b1 = true ∧ b2 = true ∧ b3 = true ∧ u = false ∧ cl = true) ∨ (b1 = true ∧ b2 = true ∧ b3 = true ∧ u = false ∧ cl = false ∧ ¬ k = 0) ∨ (b1 = true ∧ b2 = true ∧ b3 = true ∧ u = false ∧ cl = false ∧ k = 0) := by
  by_cases e : k = 0 <;> cases b1 <;> cases b2 <;> cases b3 <;> cases u <;> cases cl <;> simp [e]
 rcases cs with rfl | ⟨rfl, rfl⟩ | ⟨rfl, rfl, rfl⟩ | ⟨rfl, rfl, rfl, rfl⟩ | ⟨rfl, rfl, rfl, rfl, rfl⟩ | ⟨rfl, rfl, rfl, rfl, rfl, e⟩ | ⟨rfl, rfl, rfl, rfl, rfl, e⟩
 all_goals
  refine Cd.enter' Try.func125 rfl Try.ntmps125 rfl ?_
  repeat' (first | ((with_reducible refine kAL ?_); (first | (refine kL 3114 rfl ?_; first | refine uK (c1) ?_ | refine uK (c2) ?_) | (refine kL 4170 rfl ?_; first | refine uK (c3) ?_) | refine uA ?_)) | refine uC ?_ | fail)
  all_goals first | (exfalso; omega) | (exact Bool.noConfusion hc) | ((first | exact Fin.q Try.results125 (.cons (.tmp rfl) .nil) [] | refine Fin.q Try.results125 (.cons (.tmp rfl) .nil) [] (hr := (.t ?_))))
  all_goals first | (simp; done) | (simp [e]; done) | skip
theorem pmay_c (k : DCase) : Cd Try.prog 120 [.agg [i64 k.dir, i64 k.handle, i64 k.value]] (bo (caseOK k)) [] := by
 have c1 := pfits_c k.handle 16 65536 (by decide) (by decide)
 have c2 := pfits_c k.value 32 4294967296 (by decide) (by decide)
 rw [fitI_in _ _ 65535 (by decide)] at c1
 rw [fitI_in _ _ 4294967295 (by decide)] at c2
 unfold caseOK
 generalize inI k.handle 0 65535 = b1 at *
 generalize inI k.value 0 4294967295 = b2 at *
 by_cases e1 : k.dir = 1 <;> by_cases e2 : k.dir = 2
 all_goals
  cases b1 <;> cases b2
  all_goals
   refine Cd.enter' Try.func120 rfl Try.ntmps120 rfl ?_
   repeat' (first | ((with_reducible refine kAL ?_); (first | (refine kL 3434 rfl ?_; first | refine uK (c1) ?_ | refine uK (c2) ?_) | refine uA ?_)) | refine uC ?_ | fail)
   all_goals first | (exfalso; omega) | (refine Fin.q Try.results120 (.cons (.tmp rfl) .nil) [] (hr := (.t ?_)))
   all_goals first | (simp [*]; done) | skip
def fitQ (q : DReq) : Bool := inI q.kind 1 9 && inI q.arg 0 65535 && inI q.value 0 4294967295 && decide (q.cases.length ≤ 3) && q.cases.all caseOK
theorem fitQ_sel (l : List DCase) : fitQ ⟨3, 0, 0, false, l⟩ = (decide (l.length ≤ 3) && l.all caseOK) := by unfold fitQ; rfl
theorem pFits_c (q : DReq) (hl : q.cases.length ≤ 1152921504606846976) : Cd Try.prog 106 [aRq q] (bo (fitQ q)) [] := by
 have c1 := pfits_c q.arg 16 65536 (by decide) (by decide)
 have c2 := pfits_c q.value 32 4294967296 (by decide) (by decide)
 rw [fitI_in _ _ 65535 (by decide)] at c1
 rw [fitI_in _ _ 4294967295 (by decide)] at c2
 have h1 : (q.cases.map tCs).length = q.cases.length := List.length_map _
 obtain ⟨k, a, v, df, l⟩ := q
 unfold fitQ
 dsimp only at *
 generalize inI a 0 65535 = b1 at *
 generalize inI v 0 4294967295 = b2 at *
 by_cases k1 : 1 ≤ k ∧ k ≤ 9
 ·rw [show inI k 1 9 = true from decide_eq_true k1]
  by_cases k2 : l.length ≤ 3
  ·rw [decide_eq_true k2]
   cases b1
   ·refine Cd.enter' Try.func106 rfl Try.ntmps106 rfl ?_
    repeat' (first | ((with_reducible refine kAL ?_); (first | (refine kL 3434 rfl ?_; first | refine uK (c1) ?_) | refine uA ?_)) | refine uC ?_ | fail)
    all_goals first | (exfalso; omega) | (exact Fin.q Try.results106 (.cons (.tmp rfl) .nil) [])
   ·cases b2
    ·refine Cd.enter' Try.func106 rfl Try.ntmps106 rfl ?_
     repeat' (first | ((with_reducible refine kAL ?_); (first | (refine kL 3434 rfl ?_; first | refine uK (c1) ?_ | refine uK (c2) ?_) | refine uA ?_)) | refine uC ?_ | fail)
     all_goals first | (exfalso; omega) | (exact Fin.q Try.results106 (.cons (.tmp rfl) .nil) [])
    ·simp only [Bool.true_and]
     refine Cd.enter' Try.func106 rfl Try.ntmps106 rfl ?_
     repeat' (first | ((with_reducible refine kAL ?_); (first | (refine kL 3434 rfl ?_; first | refine uK (c1) ?_ | refine uK (c2) ?_) | refine uA ?_)) | refine uC ?_ | fail)
     all_goals first | (exfalso; omega) | skip
     refine AW.loopP (fun (i : Nat) => i ≤ l.length ∧ ∀ j, j < i → ∀ a, l[j]? = some a → caseOK a = true) (fun (i : Nat) => (pu (pu (pu (fun _ => .any) 32 (.ln (l.map tCs))) 33 (i64 (l.map tCs).length)) 34 (i64 i))) (fun (i : Nat) => []) (fun (i : Nat) => l.length - i) (0) ?_ ?_ ?_
     ·exact ⟨Nat.zero_le _, fun j hj => by omega⟩
     ·exact Wk.cq 0
     ·rintro i ⟨h2, h3⟩
      by_cases hi : i < l.length
      ·obtain ⟨a, ha⟩ : ∃ a, l[i]? = some a := ⟨_, List.getElem?_eq_getElem hi⟩
       have cA := pmay_c a
       cases hv : caseOK a
       ·rw [hv] at cA
        have : l.all caseOK = false := List.all_eq_false.2 ⟨a, List.mem_of_getElem? ha, by rw [hv]; decide⟩
        rw [this]
        repeat' (first | ((with_reducible refine kAL ?_); (first | (refine kL 3850 rfl ?_; first | refine uK (cA) ?_) | refine uA ?_)) | refine uC ?_ | fail)
        all_goals first | (exfalso; omega) | (exact Fin.q Try.results106 (.cons (.tmp rfl) .nil) [])
       ·rw [hv] at cA
        repeat' (first | ((with_reducible refine kAL ?_); (first | (refine kL 3850 rfl ?_; first | refine uK (cA) ?_) | refine uA ?_)) | refine uC ?_ | fail)
        all_goals first | (exfalso; omega) | skip
        refine ⟨i + 1, ⟨by omega, fun j hj b hb => ?_⟩, by omega, ?_⟩
        ·by_cases e : j = i
         ·subst e; rw [ha] at hb; cases hb; exact hv
         ·exact h3 j (by omega) b hb
        ·exact Wk.cq 0
      ·have : l.all caseOK = true := List.all_eq_true.2 fun a ha => by
        obtain ⟨j, hj⟩ := List.getElem?_of_mem ha
        exact h3 j (by have := get_lt hj; omega) a hj
       rw [this]
       repeat' (first | refine uA ?_ | refine uC ?_ | fail)
       all_goals first | (exfalso; omega) | (exact Fin.q Try.results106 (.cons (.tmp rfl) .nil) [])
  ·rw [decide_eq_false k2, Bool.and_false, Bool.false_and]
   cases b1 <;> cases b2
   all_goals
    refine Cd.enter' Try.func106 rfl Try.ntmps106 rfl ?_
    repeat' (first | ((with_reducible refine kAL ?_); (first | (refine kL 3434 rfl ?_; first | refine uK (c1) ?_ | refine uK (c2) ?_) | refine uA ?_)) | refine uC ?_ | fail)
    all_goals first | (exfalso; omega) | (exact Fin.q Try.results106 (.cons (.tmp rfl) .nil) [])
 ·rw [show inI k 1 9 = false from decide_eq_false k1]
  simp only [Bool.false_and]
  by_cases k2 : k < 1
  all_goals
   refine Cd.enter' Try.func106 rfl Try.ntmps106 rfl ?_
   repeat' (first | refine uA ?_ | refine uC ?_ | fail)
   all_goals first | (exfalso; omega) | (exact Fin.q Try.results106 (.cons (.tmp rfl) .nil) [])
theorem wait_c (w : DWait) (hl : w.cases.length ≤ 1152921504606846976) : Cd Try.prog 128 [aWt w] (bo (waitOK w)) [] := by
 have h1 : (w.cases.map tCs).length = w.cases.length := List.length_map _
 have c1 := in_c w.ticket 0 4294967295
 have c2 := in_c w.seq 0 1048575
 have c3 := in_c (w.cases.map tCs).length 1 3
 have c4 := pFits_c ⟨3, 0, 0, false, w.cases⟩ hl
 rw [fitQ_sel] at c4
 obtain ⟨on, tk, sq, l⟩ := w
 unfold waitOK
 dsimp only at *
 cases on
 ·rw [if_neg (by decide)]
  have hst : l = [] ↔ l.length = 0 := List.length_eq_zero_iff.symm
  have cs : ¬ tk = 0 ∨ (tk = 0 ∧ ¬ sq = 0) ∨ (tk = 0 ∧ sq = 0 ∧ ¬ l.length = 0) ∨ (tk = 0 ∧ sq = 0 ∧ l.length = 0) := by omega
  clear c1 c2 c3 c4
  rcases cs with e1 | ⟨e1, e2⟩ | ⟨e1, e2, e3⟩ | ⟨e1, e2, e3⟩
  all_goals
   refine Cd.enter' Try.func128 rfl Try.ntmps128 rfl ?_
   repeat' (first | refine uA ?_ | refine uC ?_ | fail)
   all_goals first | (exfalso; omega) | (refine Fin.q Try.results128 (.cons (.tmp rfl) .nil) [] (hr := (.t ?_)))
   all_goals first | (simp [e1]; done) | (simp [e1, e2]; done) | (simp [e1, e2, hst, e3]; done) | skip
 ·rw [if_pos rfl]
  have e3 : inI (l.map tCs).length 1 3 = decide (1 ≤ l.length ∧ l.length ≤ 3) := by unfold inI; exact decide_eq_decide.2 (by omega)
  rw [e3] at c3
  generalize inI tk 0 4294967295 = b1 at *
  generalize inI sq 0 1048575 = b2 at *
  by_cases k : 1 ≤ l.length ∧ l.length ≤ 3
  ·rw [decide_eq_true k] at c3 ⊢
   rw [decide_eq_true k.2, Bool.true_and] at c4
   generalize l.all caseOK = b4 at *
   have cs : b1 = false ∨ (b1 = true ∧ b2 = false) ∨ (b1 = true ∧ b2 = true) := by cases b1 <;> cases b2 <;> simp
   rcases cs with rfl | ⟨rfl, rfl⟩ | ⟨rfl, rfl⟩
   all_goals
    refine Cd.enter' Try.func128 rfl Try.ntmps128 rfl ?_
    repeat' (first | ((with_reducible refine kAL ?_); (first | (refine kL 3114 rfl ?_; first | refine uK (c1) ?_ | refine uK (c2) ?_ | refine uK (c3) ?_) | (refine kL 3402 rfl ?_; first | refine uK (c4) ?_) | refine uA ?_)) | refine uC ?_ | fail)
    all_goals first | (exfalso; omega) | (exact Bool.noConfusion hc) | (exact Fin.q Try.results128 (.cons (.tmp rfl) .nil) [])
    all_goals first | (simp; done) | skip
  ·rw [decide_eq_false k] at c3 ⊢
   rw [Bool.and_false, Bool.false_and]
   have cs : b1 = false ∨ (b1 = true ∧ b2 = false) ∨ (b1 = true ∧ b2 = true) := by cases b1 <;> cases b2 <;> simp
   rcases cs with rfl | ⟨rfl, rfl⟩ | ⟨rfl, rfl⟩
   all_goals
    refine Cd.enter' Try.func128 rfl Try.ntmps128 rfl ?_
    repeat' (first | ((with_reducible refine kAL ?_); (first | (refine kL 3114 rfl ?_; first | refine uK (c1) ?_ | refine uK (c2) ?_ | refine uK (c3) ?_) | refine uA ?_)) | refine uC ?_ | fail)
    all_goals first | (exfalso; omega) | (exact Bool.noConfusion hc) | (exact Fin.q Try.results128 (.cons (.tmp rfl) .nil) [])
    all_goals first | (simp; done) | skip
theorem fits1_c (c : DConf) (x : DChan) (hl : x.buf.length ≤ 1152921504606846976) : Cd Try.prog 124 [.agg ((tCh x).map .t), .lp [i64 c.kind, i64 c.threads, i64 c.chans, i64 c.cap, i64 c.nodes, i64 c.retire, i64 c.patience, i64 c.tags, i64 c.seqs, i64 c.gens, .ln (c.start.map tI)]] (bo (!chanOK c.cap x)) [] := by
 have c1 := channel_c c x hl
 generalize chanOK c.cap x = b at c1
 show Cd Try.prog 124 [.agg [i64 x.gen, i64 x.cap, bo x.used, bo x.closed, .t (.lst (x.buf.map tI))], _] _ _
 refine Cd.enter' Try.func124 rfl Try.ntmps124 rfl ?_
 repeat' (first | ((with_reducible refine kAL ?_); (first | (refine kL 4010 rfl ?_; first | refine uK (c1) ?_) | refine uA ?_)) | refine uC ?_ | fail)
 all_goals first | (exfalso; omega) | (exact Fin.q Try.results124 (.cons (.tmp rfl) .nil) [])
theorem fits2_c (w : DWait) (hl : w.cases.length ≤ 1152921504606846976) : Cd Try.prog 127 [.agg ((tWt w).map .t)] (bo (!waitOK w)) [] := by
 have c1 := wait_c w hl
 generalize waitOK w = b at c1
 show Cd Try.prog 127 [.agg [bo w.on, i64 w.ticket, i64 w.seq, .t (.lst (w.cases.map tCs))]] _ _
 refine Cd.enter' Try.func127 rfl Try.ntmps127 rfl ?_
 repeat' (first | ((with_reducible refine kAL ?_); (first | (refine kL 4106 rfl ?_; first | refine uK (c1) ?_) | refine uA ?_)) | refine uC ?_ | fail)
 all_goals first | (exfalso; omega) | (exact Fin.q Try.results127 (.cons (.tmp rfl) .nil) [])
structure okH (h : DHall) : Prop where
 c : h.chans.length ≤ 1152921504606846976
 b : ∀ x ∈ h.chans, x.buf.length ≤ 1152921504606846976
 w : h.waits.length ≤ 1152921504606846976
 k : ∀ x ∈ h.waits, x.cases.length ≤ 1152921504606846976
 d : h.done.length ≤ 1152921504606846976
theorem fitsH_c (c : DConf) (h : DHall) (hs : c.start.length ≤ 1152921504606846976) (hh : okH h) : Cd Try.prog 111 [aCf c, aHl h] (bo (fitsH c h)) [] := by
 have cF := conFC_c 124 [] [.lp [i64 c.kind, i64 c.threads, i64 c.chans, i64 c.cap, i64 c.nodes, i64 c.retire, i64 c.patience, i64 c.tags, i64 c.seqs, i64 c.gens, .ln (c.start.map tI)]] (fun x => !chanOK c.cap x) h.chans
  (fun x hx => ⟨_, _, [], [.lp [i64 c.kind, i64 c.threads, i64 c.chans, i64 c.cap, i64 c.nodes, i64 c.retire, i64 c.patience, i64 c.tags, i64 c.seqs, i64 c.gens, .ln (c.start.map tI)]], rfl, Try.func124, by kernel_rfl, by kernel_rfl, fun _ => .nil, fun _ => .cons (.lpL (by repeat (first | exact .nil | refine .cons ?_ ?_ | exact .t _ | exact .ln _))) .nil, fits1_c c x (hh.b x hx)⟩) rfl
  (fun _ _ => .fnL .nil (.cons (.lpL (by repeat (first | exact .nil | refine .cons ?_ ?_ | exact .t _ | exact .ln _))) .nil)) hh.c
 have cW := conFW_c 127 [] [] (fun x => !waitOK x) h.waits (fun x hx => ⟨_, _, [], [], rfl, Try.func127, by kernel_rfl, by kernel_rfl, fun _ => .nil, fun _ => .nil, fits2_c x (hh.k x hx)⟩) rfl (fun _ _ => .fnL .nil .nil) hh.w
 have c1 := check_c c hs
 have c2 := in_c h.ticket 0 4294967295
 have c3 := done_c h.done c.threads hh.d
 have h1 : (h.chans.map tCh).length = h.chans.length := List.length_map _
 have h2 : (h.waits.map tWt).length = h.waits.length := List.length_map _
 unfold fitsH
 rw [List.all_eq_not_any_not, List.all_eq_not_any_not]
 generalize (h.chans.any fun x => !chanOK c.cap x) = b5 at *
 generalize (h.waits.any fun x => !waitOK x) = b6 at *
 generalize inI h.ticket 0 4294967295 = b2 at *
 generalize resOK h.done c.threads = b3 at *
 cases hk : chkC c
 ·rw [hk] at c1
  simp only [Bool.false_and]
  refine Cd.enter' Try.func111 rfl Try.ntmps111 rfl ?_
  repeat' (first | ((with_reducible refine kAL ?_); (first | (refine kL 2314 rfl ?_; first | refine uK (c1) ?_) | refine uA ?_)) | refine uC ?_ | fail)
  all_goals first | (exfalso; omega) | (exact Fin.q Try.results111 (.cons (.tmp rfl) .nil) [])
 ·rw [hk] at c1
  have cs : ¬ c.kind = 3 ∨ (c.kind = 3 ∧ b2 = false) ∨ (c.kind = 3 ∧ b2 = true ∧ ¬ (h.chans.length : Int) = c.chans) ∨ (c.kind = 3 ∧ b2 = true ∧ (h.chans.length : Int) = c.chans ∧ ¬ (h.waits.length : Int) = c.threads) ∨ (c.kind = 3 ∧ b2 = true ∧ (h.chans.length : Int) = c.chans ∧ (h.waits.length : Int) = c.threads ∧ b3 = false) ∨ (c.kind = 3 ∧ b2 = true ∧ (h.chans.length : Int) = c.chans ∧ (h.waits.length : Int) = c.threads ∧ b3 = true ∧ b5 = true) ∨ (c.kind = 3 ∧ b2 = true ∧ (h.chans.length : Int) = c.chans ∧ (h.waits.length : Int) = c.threads ∧ b3 = true ∧ b5 = false ∧ b6 = true) ∨ (c.kind = 3 ∧ b2 = true ∧ (h.chans.length : Int) = c.chans ∧ (h.waits.length : Int) = c.threads ∧ b3 = true ∧ b5 = false ∧ b6 = false) := by
   by_cases e1 : c.kind = 3 <;> by_cases e2 : (h.chans.length : Int) = c.chans <;> by_cases e3 : (h.waits.length : Int) = c.threads <;> cases b2 <;> cases b3 <;> cases b5 <;> cases b6 <;> simp [e1, e2, e3]
  rcases cs with e1 | ⟨e1, rfl⟩ | ⟨e1, rfl, e2⟩ | ⟨e1, rfl, e2, e3⟩ | ⟨e1, rfl, e2, e3, rfl⟩ | ⟨e1, rfl, e2, e3, rfl, rfl⟩ | ⟨e1, rfl, e2, e3, rfl, rfl, rfl⟩ | ⟨e1, rfl, e2, e3, rfl, rfl, rfl⟩
  all_goals
   refine Cd.enter' Try.func111 rfl Try.ntmps111 rfl ?_
   repeat' (first | ((with_reducible refine kAL ?_); (first | (refine kL 2314 rfl ?_; first | refine uK (c1) ?_) | (refine kL 3114 rfl ?_; first | refine uK (c2) ?_) | (refine kL 3914 rfl ?_; first | refine uK (c3) ?_) | (refine kL 3946 rfl ?_; first | refine uK (cF) ?_) | (refine kL 4042 rfl ?_; first | refine uK (cW) ?_) | refine uA ?_)) | refine uC ?_ | fail)
   all_goals first | (exfalso; omega) | (exact Bool.noConfusion hc) | (refine Fin.q Try.results111 (.cons (.tmp rfl) .nil) [] (hr := (.t ?_)))
   all_goals first | (simp [e1]; done) | (simp [e1, e2]; done) | (simp [e1, e2, e3]; done) | skip
theorem fitsX_c (c : DConf) (x : DCells) (hs : c.start.length ≤ 1152921504606846976) (h1 : x.list.length ≤ 1152921504606846976) (h2 : x.done.length ≤ 1152921504606846976) : Cd Try.prog 116 [aCf c, aCl x] (bo (fitsX c x)) [] := by
 have c1 := check_c c hs
 have c2 := values_c x.list c.cap h1
 have c3 := done_c x.done c.threads h2
 unfold fitsX
 generalize valsOK x.list c.cap = b2 at *
 generalize resOK x.done c.threads = b3 at *
 cases hk : chkC c
 ·rw [hk] at c1
  simp only [Bool.false_and]
  refine Cd.enter' Try.func116 rfl Try.ntmps116 rfl ?_
  repeat' (first | ((with_reducible refine kAL ?_); (first | (refine kL 2314 rfl ?_; first | refine uK (c1) ?_) | refine uA ?_)) | refine uC ?_ | fail)
  all_goals first | (exfalso; omega) | (exact Fin.q Try.results116 (.cons (.tmp rfl) .nil) [])
 ·rw [hk] at c1
  have cs : c.kind = 3 ∨ (¬ c.kind = 3 ∧ ¬ x.cap = c.cap) ∨ (¬ c.kind = 3 ∧ x.cap = c.cap ∧ b2 = false) ∨ (¬ c.kind = 3 ∧ x.cap = c.cap ∧ b2 = true ∧ b3 = false) ∨ (¬ c.kind = 3 ∧ x.cap = c.cap ∧ b2 = true ∧ b3 = true) := by
   by_cases e1 : c.kind = 3 <;> by_cases e2 : x.cap = c.cap <;> cases b2 <;> cases b3 <;> simp [e1, e2]
  rcases cs with e1 | ⟨e1, e2⟩ | ⟨e1, e2, rfl⟩ | ⟨e1, e2, rfl, rfl⟩ | ⟨e1, e2, rfl, rfl⟩
  all_goals
   refine Cd.enter' Try.func116 rfl Try.ntmps116 rfl ?_
   repeat' (first | ((with_reducible refine kAL ?_); (first | (refine kL 2314 rfl ?_; first | refine uK (c1) ?_) | (refine kL 4170 rfl ?_; first | refine uK (c2) ?_) | (refine kL 3914 rfl ?_; first | refine uK (c3) ?_) | refine uA ?_)) | refine uC ?_ | fail)
   all_goals first | (exfalso; omega) | (exact Bool.noConfusion hc) | (refine Fin.q Try.results116 (.cons (.tmp rfl) .nil) [] (hr := (.t ?_)))
   all_goals first | (simp [e1]; done) | (simp [e1, e2]; done) | skip
end
end Go.Proofs.Ytnfbggpkiekpdaa
