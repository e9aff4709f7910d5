/- Joined: XTHallT, XTStartF. -/
import Derived.Test.YtnfbggpkiekpdaaKR15h
import Derived.Test.YtnfbggpkiekpdaaKR15l
namespace Go.Proofs.Ytnfbggpkiekpdaa
open Go.RowKit
set_option linter.unusedVariables false
set_option linter.unusedSimpArgs false
set_option linter.unnecessarySimpa false
set_option maxRecDepth 100000
set_option maxHeartbeats 64000000
section
attribute [local irreducible] AL AW RG Fin C Cd Cio thenQ blockQ retQ
set_option maxRecDepth 100000
theorem stC_ge {s : List Int} {p i : Nat} (h : p ≤ i) : stC s p (i + 1) = stC s p i := by
 refine List.ext_getElem? fun j => ?_
 by_cases hj : j < p
 ·rw [stC_get s hj, stC_get s hj]
  by_cases q : j < s.length
  ·rw [if_pos ⟨by omega, q⟩, if_pos ⟨by omega, q⟩]
  ·rw [if_neg (by omega), if_neg (by omega)]
 ·rw [List.getElem?_eq_none (by rw [stC_len]; omega), List.getElem?_eq_none (by rw [stC_len]; omega)]
theorem stC_full (s : List Int) (p : Nat) : stC s p s.length = stC s p p := by
 refine List.ext_getElem? fun j => ?_
 by_cases hj : j < p
 ·rw [stC_get s hj, stC_get s hj]
  by_cases q : j < s.length
  ·rw [if_pos ⟨q, q⟩, if_pos ⟨hj, q⟩]
  ·rw [if_neg (by omega), if_neg (by omega)]
 ·rw [List.getElem?_eq_none (by rw [stC_len]; omega), List.getElem?_eq_none (by rw [stC_len]; omega)]
theorem hstart_c (c : DConf) (hs0 : c.start.length ≤ 1152921504606846976) : Cd Try.prog 101 [aCf c] (.agg [i64 0, .sl 0 0 (plN c), .sl 1 0 (thN c), .sl 2 0 (thN c)]) [.row 0 125 5 ((stC c.start (plN c) (plN c)).map tCh), .row 0 129 4 ((List.replicate (thN c) (⟨false, 0, 0, []⟩ : DWait)).map tWt), .row 0 71 4 ((List.replicate (thN c) (⟨0, 0, 0, 0⟩ : Rst)).map tR)] := by
 have h1 : (c.start.map tI).length = c.start.length := List.length_map _
 have hp : ((plN c : Nat) : Int) = max (min c.chans 8) 0 := by have := plN_e c; omega
 have ht : ((thN c : Nat) : Int) = max (min c.threads 64) 0 := by have := thN_e c; omega
 have hp8 := (plN_e c).2
 have ht64 := (thN_e c).2
 generalize plN c = p at *
 generalize thN c = th at *
 refine Cd.enter' Try.func101 rfl Try.ntmps101 rfl ?_
 repeat' (first | ((with_reducible refine kAL ?_); (first | (refine kL 4003 rfl ?_; first | refine A_store_rp rfl rfl 125 _ _ rfl inf125 (by decide) rfl rfl (by first | exact map_get (by assumption) | assumption) rfl rfl rfl (Nat.le_of_ble_eq_true rfl) (by first | exact map_set (f := tCh) (x := ⟨_, _, _, _, []⟩) | exact map_set (f := tWt) (x := ⟨_, _, _, []⟩) | exact map_set (f := tR) (x := ⟨_, _, _, _⟩) | exact qN) qN ?_) | (refine kL 3619 rfl ?_; first | refine A_store_rp rfl rfl 113 _ _ rfl inf113 (by decide) rfl rfl (by first | exact map_get (by assumption) | assumption) rfl rfl rfl (Nat.le_of_ble_eq_true rfl) (by first | exact map_set (f := tCh) (x := ⟨_, _, _, _, []⟩) | exact map_set (f := tWt) (x := ⟨_, _, _, []⟩) | exact map_set (f := tR) (x := ⟨_, _, _, _⟩) | exact qN) qN ?_) | refine uA ?_)) | ((with_reducible refine kRG ?_); (first | (refine kR 3536 rfl ?_; first | refine R_make rfl rfl 110 _ _ rfl ud110 inf125 rfl (zs := [(.v (.int .i64 0)), (.v (.int .i64 0)), (.v (.bool false)), (.v (.bool false)), .lst []]) rfl rfl rfl p (by first | rfl | assumption | omega) (by first | rfl | assumption | omega) qB qB (by first | exact rep_map (f := tCh) (x := ⟨_, _, _, _, []⟩) | exact rep_map (f := tWt) (x := ⟨_, _, _, []⟩) | exact rep_map (f := tR) (x := ⟨_, _, _, _⟩) | exact qN) qh qN ?_ | refine R_make rfl rfl 110 _ _ rfl ud110 inf125 rfl (zs := [(.v (.int .i64 0)), (.v (.int .i64 0)), (.v (.bool false)), (.v (.bool false)), .lst []]) rfl rfl rfl th (by first | rfl | assumption | omega) (by first | rfl | assumption | omega) qB qB (by first | exact rep_map (f := tCh) (x := ⟨_, _, _, _, []⟩) | exact rep_map (f := tWt) (x := ⟨_, _, _, []⟩) | exact rep_map (f := tR) (x := ⟨_, _, _, _⟩) | exact qN) qh qN ?_ | refine R_make rfl rfl 110 _ _ rfl ud110 inf125 rfl (zs := [(.v (.int .i64 0)), (.v (.int .i64 0)), (.v (.bool false)), (.v (.bool false)), .lst []]) rfl rfl rfl _ (by first | rfl | assumption | omega) (by first | rfl | assumption | omega) qB qB (by first | exact rep_map (f := tCh) (x := ⟨_, _, _, _, []⟩) | exact rep_map (f := tWt) (x := ⟨_, _, _, []⟩) | exact rep_map (f := tR) (x := ⟨_, _, _, _⟩) | exact qN) qh qN ?_) | (refine kR 3568 rfl ?_; first | refine R_make rfl rfl 111 _ _ rfl ud111 inf129 rfl (zs := [(.v (.bool false)), (.v (.int .i64 0)), (.v (.int .i64 0)), .lst []]) rfl rfl rfl p (by first | rfl | assumption | omega) (by first | rfl | assumption | omega) qB qB (by first | exact rep_map (f := tCh) (x := ⟨_, _, _, _, []⟩) | exact rep_map (f := tWt) (x := ⟨_, _, _, []⟩) | exact rep_map (f := tR) (x := ⟨_, _, _, _⟩) | exact qN) qh qN ?_ | refine R_make rfl rfl 111 _ _ rfl ud111 inf129 rfl (zs := [(.v (.bool false)), (.v (.int .i64 0)), (.v (.int .i64 0)), .lst []]) rfl rfl rfl th (by first | rfl | assumption | omega) (by first | rfl | assumption | omega) qB qB (by first | exact rep_map (f := tCh) (x := ⟨_, _, _, _, []⟩) | exact rep_map (f := tWt) (x := ⟨_, _, _, []⟩) | exact rep_map (f := tR) (x := ⟨_, _, _, _⟩) | exact qN) qh qN ?_ | refine R_make rfl rfl 111 _ _ rfl ud111 inf129 rfl (zs := [(.v (.bool false)), (.v (.int .i64 0)), (.v (.int .i64 0)), .lst []]) rfl rfl rfl _ (by first | rfl | assumption | omega) (by first | rfl | assumption | omega) qB qB (by first | exact rep_map (f := tCh) (x := ⟨_, _, _, _, []⟩) | exact rep_map (f := tWt) (x := ⟨_, _, _, []⟩) | exact rep_map (f := tR) (x := ⟨_, _, _, _⟩) | exact qN) qh qN ?_) | (refine kR 1136 rfl ?_; first | refine R_make rfl rfl 35 _ _ rfl ud35 inf71 rfl (zs := [(.v (.int .i64 0)), (.v (.int .i64 0)), (.v (.int .i64 0)), (.v (.int .i64 0))]) rfl rfl rfl p (by first | rfl | assumption | omega) (by first | rfl | assumption | omega) qB qB (by first | exact rep_map (f := tCh) (x := ⟨_, _, _, _, []⟩) | exact rep_map (f := tWt) (x := ⟨_, _, _, []⟩) | exact rep_map (f := tR) (x := ⟨_, _, _, _⟩) | exact qN) qh qN ?_ | refine R_make rfl rfl 35 _ _ rfl ud35 inf71 rfl (zs := [(.v (.int .i64 0)), (.v (.int .i64 0)), (.v (.int .i64 0)), (.v (.int .i64 0))]) rfl rfl rfl th (by first | rfl | assumption | omega) (by first | rfl | assumption | omega) qB qB (by first | exact rep_map (f := tCh) (x := ⟨_, _, _, _, []⟩) | exact rep_map (f := tWt) (x := ⟨_, _, _, []⟩) | exact rep_map (f := tR) (x := ⟨_, _, _, _⟩) | exact qN) qh qN ?_ | refine R_make rfl rfl 35 _ _ rfl ud35 inf71 rfl (zs := [(.v (.int .i64 0)), (.v (.int .i64 0)), (.v (.int .i64 0)), (.v (.int .i64 0))]) rfl rfl rfl _ (by first | rfl | assumption | omega) (by first | rfl | assumption | omega) qB qB (by first | exact rep_map (f := tCh) (x := ⟨_, _, _, _, []⟩) | exact rep_map (f := tWt) (x := ⟨_, _, _, []⟩) | exact rep_map (f := tR) (x := ⟨_, _, _, _⟩) | exact qN) qh qN ?_) | (refine kR 3619 rfl ?_; first | refine R_store_rp rfl rfl 113 _ _ rfl inf113 (by decide) rfl rfl (by first | exact map_get (by assumption) | assumption) rfl rfl rfl (Nat.le_of_ble_eq_true rfl) (by first | exact map_set (f := tCh) (x := ⟨_, _, _, _, []⟩) | exact map_set (f := tWt) (x := ⟨_, _, _, []⟩) | exact map_set (f := tR) (x := ⟨_, _, _, _⟩) | exact qN) qN ?_) | refine uR ?_)) | refine uC ?_ | refine kcp rfl (fun hc => ?_) (fun hc => ?_) | refine kcn rfl (fun hc => ?_) (fun hc => ?_) | refine kcb rfl (fun hc => ?_) (fun hc => ?_) | refine kcc rfl (fun hc => ?_) (fun hc => ?_) | refine AW.drawU (id := 1) mixed 0 qR ?_ | refine AW.drawU (id := 2) mixed 4 qR ?_ | fail)
 all_goals first | (exfalso; omega) | skip
 refine AW.loopP (fun (i : Nat) => i ≤ c.start.length) (fun (i : Nat) => (pu (pu (pu (pu (pu (pu (pu (fun _ => .any) 1 (.ptr 0 0)) 2 (.ptr 1 0)) 3 (i64 p)) 5 (.ptr 5 0)) 24 (.ln (c.start.map tI))) 25 (i64 (c.start.map tI).length)) 26 (i64 i))) (fun (i : Nat) => [.box 24 [i64 c.kind, i64 c.threads, i64 c.chans, i64 c.cap, i64 c.nodes, i64 c.retire, i64 c.patience, i64 c.tags, i64 c.seqs, i64 c.gens, .ln (c.start.map tI)], .box 113 [i64 0, .nl, .nl, .nl], .row 0 125 5 ((stC c.start p i).map tCh), .row 0 129 4 ((List.replicate th (⟨false, 0, 0, []⟩ : DWait)).map tWt), .row 0 71 4 ((List.replicate th (⟨0, 0, 0, 0⟩ : Rst)).map tR), .box 113 [i64 0, .sl 2 0 p, .sl 3 0 th, .sl 4 0 th]]) (fun (i : Nat) => c.start.length - i) (0) ?_ ?_ ?_
 ·exact Nat.zero_le _
 ·rw [stC_zero, hp]
  exact Wk.cq 6
 ·intro i hi
  have hL := stC_len c.start p i
  have hL2 : ((stC c.start p i).map tCh).length = p := by rw [List.length_map, hL]
  by_cases hc1 : i < c.start.length
  ·obtain ⟨x, hx⟩ : ∃ x, c.start[i]? = some x := ⟨_, List.getElem?_eq_getElem hc1⟩
   by_cases hip : i < p
   ·have hg : (stC c.start p i)[i]? = some ⟨0, 0, false, false, []⟩ := by rw [stC_get _ hip, if_neg (by omega)]
    have hs := stC_next hip hx
    generalize stC c.start p i = L0 at *
    clear hp ht hs0
    repeat' (first | ((with_reducible refine kAL ?_); (first | (refine kL 4003 rfl ?_; first | refine A_store_rp rfl rfl 125 _ _ rfl inf125 (by decide) rfl rfl (by first | exact map_get (by assumption) | assumption | exact map_get hg | exact map_get hx) rfl rfl rfl (Nat.le_of_ble_eq_true rfl) (by first | exact map_set (f := tCh) (x := ⟨1, x, true, false, []⟩) | exact qN) qN ?_) | (refine kL 3619 rfl ?_; first | refine A_store_rp rfl rfl 113 _ _ rfl inf113 (by decide) rfl rfl (by first | exact map_get (by assumption) | assumption | exact map_get hg | exact map_get hx) rfl rfl rfl (Nat.le_of_ble_eq_true rfl) (by first | exact map_set (f := tCh) (x := ⟨1, x, true, false, []⟩) | exact qN) qN ?_) | refine uA ?_)) | ((with_reducible refine kRG ?_); (first | (refine kR 3536 rfl ?_; first | refine R_make rfl rfl 110 _ _ rfl ud110 inf125 rfl (zs := [(.v (.int .i64 0)), (.v (.int .i64 0)), (.v (.bool false)), (.v (.bool false)), .lst []]) rfl rfl rfl _ (by first | rfl | assumption | omega) (by first | rfl | assumption | omega) qB qB (by first | exact rep_map (f := tCh) (x := ⟨1, x, true, false, []⟩) | exact qN) qh qN ?_) | (refine kR 3568 rfl ?_; first | refine R_make rfl rfl 111 _ _ rfl ud111 inf129 rfl (zs := [(.v (.bool false)), (.v (.int .i64 0)), (.v (.int .i64 0)), .lst []]) rfl rfl rfl _ (by first | rfl | assumption | omega) (by first | rfl | assumption | omega) qB qB (by first | exact rep_map (f := tCh) (x := ⟨1, x, true, false, []⟩) | exact qN) qh qN ?_) | (refine kR 1136 rfl ?_; first | refine R_make rfl rfl 35 _ _ rfl ud35 inf71 rfl (zs := [(.v (.int .i64 0)), (.v (.int .i64 0)), (.v (.int .i64 0)), (.v (.int .i64 0))]) rfl rfl rfl _ (by first | rfl | assumption | omega) (by first | rfl | assumption | omega) qB qB (by first | exact rep_map (f := tCh) (x := ⟨1, x, true, false, []⟩) | exact qN) qh qN ?_) | (refine kR 3619 rfl ?_; first | refine R_store_rp rfl rfl 113 _ _ rfl inf113 (by decide) rfl rfl (by first | exact map_get (by assumption) | assumption | exact map_get hg | exact map_get hx) rfl rfl rfl (Nat.le_of_ble_eq_true rfl) (by first | exact map_set (f := tCh) (x := ⟨1, x, true, false, []⟩) | exact qN) qN ?_) | refine uR ?_)) | refine uC ?_ | refine kcp rfl (fun hc => ?_) (fun hc => ?_) | refine kcn rfl (fun hc => ?_) (fun hc => ?_) | refine kcb rfl (fun hc => ?_) (fun hc => ?_) | refine kcc rfl (fun hc => ?_) (fun hc => ?_) | refine AW.drawU (id := 1) mixed 0 qR ?_ | refine AW.drawU (id := 2) mixed 4 qR ?_ | fail)
    all_goals first | (exfalso; omega) | skip
    refine ⟨i + 1, by omega, by omega, ?_⟩
    rw [hs]
    exact Wk.cq 6
   ·have hs : stC c.start p (i + 1) = stC c.start p i := stC_ge (by omega)
    generalize stC c.start p i = L0 at *
    clear hp ht
    repeat' (first | refine uA ?_ | ((with_reducible refine kRG ?_); (first | (refine kR 3536 rfl ?_; first | refine R_make rfl rfl 110 _ _ rfl ud110 inf125 rfl (zs := [(.v (.int .i64 0)), (.v (.int .i64 0)), (.v (.bool false)), (.v (.bool false)), .lst []]) rfl rfl rfl _ (by first | rfl | assumption | omega) (by first | rfl | assumption | omega) qB qB (by first | exact qN) qh qN ?_) | (refine kR 3568 rfl ?_; first | refine R_make rfl rfl 111 _ _ rfl ud111 inf129 rfl (zs := [(.v (.bool false)), (.v (.int .i64 0)), (.v (.int .i64 0)), .lst []]) rfl rfl rfl _ (by first | rfl | assumption | omega) (by first | rfl | assumption | omega) qB qB (by first | exact qN) qh qN ?_) | (refine kR 1136 rfl ?_; first | refine R_make rfl rfl 35 _ _ rfl ud35 inf71 rfl (zs := [(.v (.int .i64 0)), (.v (.int .i64 0)), (.v (.int .i64 0)), (.v (.int .i64 0))]) rfl rfl rfl _ (by first | rfl | assumption | omega) (by first | rfl | assumption | omega) qB qB (by first | exact qN) qh qN ?_) | refine uR ?_)) | refine uC ?_ | refine kcp rfl (fun hc => ?_) (fun hc => ?_) | refine kcn rfl (fun hc => ?_) (fun hc => ?_) | refine kcb rfl (fun hc => ?_) (fun hc => ?_) | refine kcc rfl (fun hc => ?_) (fun hc => ?_) | refine AW.drawU (id := 1) mixed 0 qR ?_ | refine AW.drawU (id := 2) mixed 4 qR ?_ | fail)
    all_goals first | (exfalso; omega) | skip
    refine ⟨i + 1, by omega, by omega, ?_⟩
    rw [hs]
    exact Wk.cq 6
  ·have e : i = c.start.length := by omega
   subst e
   rw [stC_full]
   repeat' (first | refine uA ?_ | ((with_reducible refine kRG ?_); (first | (refine kR 3536 rfl ?_; first | refine R_make rfl rfl 110 _ _ rfl ud110 inf125 rfl (zs := [(.v (.int .i64 0)), (.v (.int .i64 0)), (.v (.bool false)), (.v (.bool false)), .lst []]) rfl rfl rfl _ (by first | rfl | assumption | omega) (by first | rfl | assumption | omega) qB qB (by first | exact qN) qh qN ?_) | (refine kR 3568 rfl ?_; first | refine R_make rfl rfl 111 _ _ rfl ud111 inf129 rfl (zs := [(.v (.bool false)), (.v (.int .i64 0)), (.v (.int .i64 0)), .lst []]) rfl rfl rfl _ (by first | rfl | assumption | omega) (by first | rfl | assumption | omega) qB qB (by first | exact qN) qh qN ?_) | (refine kR 1136 rfl ?_; first | refine R_make rfl rfl 35 _ _ rfl ud35 inf71 rfl (zs := [(.v (.int .i64 0)), (.v (.int .i64 0)), (.v (.int .i64 0)), (.v (.int .i64 0))]) rfl rfl rfl _ (by first | rfl | assumption | omega) (by first | rfl | assumption | omega) qB qB (by first | exact qN) qh qN ?_) | refine uR ?_)) | refine uC ?_ | refine kcp rfl (fun hc => ?_) (fun hc => ?_) | refine kcn rfl (fun hc => ?_) (fun hc => ?_) | refine kcb rfl (fun hc => ?_) (fun hc => ?_) | refine kcc rfl (fun hc => ?_) (fun hc => ?_) | refine AW.drawU (id := 1) mixed 0 qR ?_ | refine AW.drawU (id := 2) mixed 4 qR ?_ | fail)
   all_goals first | (exfalso; omega) | (exact Fin.q Try.results101 (.cons (.agg rfl rfl ud113 rfl inf113 (us := [_, _, _, _]) rfl rfl) .nil) [2, 3, 4])
end
section
theorem stF_c (c : DConf) (hs : c.start.length ≤ 1152921504606846976) : Cd Try.prog 101 [aCf c] (.agg [i64 (startH c).ticket, .t (.lst ((startH c).chans.map tCh)), .t (.lst ((startH c).waits.map tWt)), .t (.lst ((startH c).done.map tR))]) [] := by
 have h0 := hstart_c c hs
 have l := startH_ln c
 have e1 := l.c
 have e2 := l.w
 have e3 := l.d
 have hh : Cd Try.prog 101 [aCf c] (.agg [i64 (startH c).ticket, .sl 0 0 (startH c).chans.length, .sl 1 0 (startH c).waits.length, .sl 2 0 (startH c).done.length]) [.row 0 125 5 ((startH c).chans.map tCh), .row 0 129 4 ((startH c).waits.map tWt), .row 0 71 4 ((startH c).done.map tR)] := by rw [e1, e2, e3]; exact h0
 generalize startH c = g at *
 have hh' := Cd.frz1 hh 0 rfl (by repeat' (first | exact FzL.nil | apply FzL.cons | exact FzR.nlt | exact FzR.all (by first | rfl | (simp <;> fail) | (simp; omega)) | exact FzR.sl (by first | exact Nat.le_refl _ | (simp <;> fail) | (simp; omega)) | apply FzR.aggL | exact FzR.same _)) rfl; have hh'' := Cd.frz1 hh' 1 rfl (by repeat' (first | exact FzL.nil | apply FzL.cons | exact FzR.nlt | exact FzR.all (by first | rfl | (simp <;> fail) | (simp; omega)) | exact FzR.sl (by first | exact Nat.le_refl _ | (simp <;> fail) | (simp; omega)) | apply FzR.aggL | exact FzR.same _)) rfl; have hh''' := Cd.frz1 hh'' 2 rfl (by repeat' (first | exact FzL.nil | apply FzL.cons | exact FzR.nlt | exact FzR.all (by first | rfl | (simp <;> fail) | (simp; omega)) | exact FzR.sl (by first | exact Nat.le_refl _ | (simp <;> fail) | (simp; omega)) | apply FzR.aggL | exact FzR.same _)) rfl; exact Cd.drop hh''' rfl
end
end Go.Proofs.Ytnfbggpkiekpdaa
