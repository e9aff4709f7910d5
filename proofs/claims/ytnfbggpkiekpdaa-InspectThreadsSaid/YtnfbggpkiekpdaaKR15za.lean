/- Joined: XTInspL. -/
import Derived.Test.YtnfbggpkiekpdaaKR15h
import Derived.Test.YtnfbggpkiekpdaaKR15x
import Derived.Test.YtnfbggpkiekpdaaKR15y
import Derived.Test.YtnfbggpkiekpdaaKR15z
namespace Go.Proofs.Ytnfbggpkiekpdaa
open Go.RowKit
set_option linter.unusedVariables false
set_option linter.unusedSimpArgs false
set_option linter.unnecessarySimpa false
set_option maxRecDepth 100000
set_option maxHeartbeats 64000000
section
attribute [local irreducible] AL AW RG Fin C Cd Cio thenQ blockQ retQ
set_option maxRecDepth 100000
theorem ihazM_c (c : DConf) (hs : c.start.length ≤ 1152921504606846976) (l : List Int) (hU : okU l) : Cd Try.prog 11 [aCf c, .ln (l.map tU)] (.t (.lst ((hazM c l).map tRf))) [] := by
 have h1 : (l.map tU).length = l.length := List.length_map _
 have c1 := ifits_c c hs l
 cases hf : fitM c l
 ·rw [hf] at c1
  unfold hazM
  rw [hf, if_neg (by simp)]
  refine Cd.enter' Try.func11 rfl Try.ntmps11 rfl ?_
  repeat' (first | ((with_reducible refine kAL ?_); (first | (refine kL 1 rfl ?_; first | ((first | refine A_as (d := 4) rfl rfl rfl rfl ?_ | refine A_move (d := 4) rfl rfl _ (.inr rfl) (y := .sl _ _ _) rfl ?_ | refine A_move (d := 4) rfl rfl _ (.inr rfl) (y := .nl) rfl ?_ | refine A_move (d := 4) rfl rfl _ (.inr rfl) (y := .ptr _ _) rfl ?_ | refine A_move (d := 4) rfl rfl _ (.inr rfl) (y := .ln _) rfl ?_ | refine A_move (d := 4) rfl rfl _ (.inr rfl) (y := .lp _) rfl ?_ | refine A_move (d := 4) rfl rfl _ (.inr rfl) (y := .fn _ _ _) rfl ?_ | refine A_move (d := 4) rfl rfl _ (.inr rfl) (y := .sub _ _ _ _) rfl ?_ | refine A_move (d := 4) rfl rfl _ (.inr rfl) (y := .rp _ _ _ _) rfl ?_ | refine A_move (d := 4) rfl rfl _ (.inr rfl) (y := .agg _) rfl ?_ | refine A_move (d := 4) rfl rfl _ (.inr rfl) (y := .tup _) rfl ?_); (try refine uz 4 ?_))) | (refine kL 1930 rfl ?_; first | refine uK (c1) ?_) | (refine kL 975 rfl ?_; first | refine A_lit rfl rfl 30 1 _ rfl ud30 inf55 (.cons rfl .nil) (els := [[_, _]]) rfl (by first | exact qN) rfl (Nat.ne_of_beq_eq_false rfl) (Nat.le_of_ble_eq_true rfl) (Nat.le_of_ble_eq_true rfl) (.push qL qN) ?_) | (refine kL 12 rfl ?_; first | refine A_append_nlsub rfl rfl _ _ 30 rfl ud30 inf55 rfl rfl rfl rfl (by (try simp only [List.length_map, List.length_append, List.length_cons, List.length_nil]); omega) qB qB List.map_drop.symm (.push qL qN) ?_) | refine uA ?_)) | refine uC ?_ | refine kcp rfl (fun hc => ?_) (fun hc => ?_) | refine kcn rfl (fun hc => ?_) (fun hc => ?_) | refine kcb rfl (fun hc => ?_) (fun hc => ?_) | refine kcc rfl (fun hc => ?_) (fun hc => ?_) | fail)
  all_goals first | (exfalso; omega) | ((first | exact Fin.q Try.results11 (.cons (.tmp rfl) .nil) [] | refine Fin.q Try.results11 (.cons (.tmp rfl) .nil) [] (hr := (.t ?_)) | refine Fin.mkv (rs := _) Try.results11 (.cons (.tmp rfl) .nil) [] (by decide) rfl ?_ ?_ ?_ <;> repeat' (skip; first | exact .nil | refine .cons rfl ?_ ?_ | refine .cons ?_ ?_ | refine .row ?_ | refine .rset ?_ | refine .box ?_ | exact .gone | refine .aggL ?_ | refine .tupL ?_ | refine .old rfl ?_ | refine .new rfl rfl rfl ?_ | exact .nl | exact .optr rfl | exact .nptr rfl rfl rfl | refine .t ?_ | exact .any _ | rfl)))
 ·obtain ⟨T, X, F⟩ := fm_of hf
  have hth := F.th
  have ht0 := F.t0
  have hT : c.threads.toNat = T := by omega
  have hM : hazM c l = (List.range T).map (hazF c l) := by unfold hazM; rw [hf, if_pos rfl, hT]
  have hlen : (hazM c l).length = T := by rw [hM, List.length_map, List.length_range]
  rw [hf] at c1
  have h0 : Cd Try.prog 11 [aCf c, .ln (l.map tU)] (.sl 0 0 (hazM c l).length) [.row 0 55 2 ((hazM c l).map tRf)] := by
   rw [hlen, hM]
   refine Cd.enter' Try.func11 rfl Try.ntmps11 rfl ?_
   repeat' (first | ((with_reducible refine kAL ?_); (first | (refine kL 1930 rfl ?_; first | refine uK (c1) ?_) | (refine kL 975 rfl ?_; first | refine A_lit rfl rfl 30 1 _ rfl ud30 inf55 (.cons rfl .nil) (els := [[_, _]]) rfl (by first | exact qN) rfl (Nat.ne_of_beq_eq_false rfl) (Nat.le_of_ble_eq_true rfl) (Nat.le_of_ble_eq_true rfl) (.push qL qN) ?_) | (refine kL 12 rfl ?_; first | refine A_append_nlsub rfl rfl _ _ 30 rfl ud30 inf55 rfl rfl rfl rfl (by (try simp only [List.length_map, List.length_append, List.length_cons, List.length_nil]); omega) qB qB List.map_drop.symm (.push qL qN) ?_) | refine uA ?_)) | refine uC ?_ | refine kcp rfl (fun hc => ?_) (fun hc => ?_) | refine kcn rfl (fun hc => ?_) (fun hc => ?_) | refine kcb rfl (fun hc => ?_) (fun hc => ?_) | refine kcc rfl (fun hc => ?_) (fun hc => ?_) | fail)
   all_goals first | (exfalso; omega) | skip
   refine AW.wk (Wk.own 5 rfl 55 2 (.push rfl rfl)) ?_
   refine AW.loopP (fun (k : Nat) => k ≤ T) (fun (k : Nat) => (pu (pu (pu (pu (pu (fun _ => .any) 1 (.ln (l.map tU))) 2 (.ptr 0 0)) 5 (.sl 1 k k)) 14 (i64 c.threads)) 15 (i64 k))) (fun (k : Nat) => [.box 24 [i64 c.kind, i64 c.threads, i64 c.chans, i64 c.cap, i64 c.nodes, i64 c.retire, i64 c.patience, i64 c.tags, i64 c.seqs, i64 c.gens, .ln (c.start.map tI)], .row k 55 2 (((List.range k).map (hazF c l)).map tRf)]) (fun (k : Nat) => T - k) (0) ?_ ?_ ?_
   ·exact Nat.zero_le _
   ·exact Wk.cq 2
   ·intro k hk
    by_cases hk2 : k < T
    ·obtain ⟨e1, e2⟩ := F.haz hk2
     have c3 := hazL_c c k
     rw [e1] at c3
     obtain ⟨w1, w2, w3⟩ := u_at hU e2
     have hs2 := rng_map (hazF c l) k
     have hfk : hazF c l k = ⟨refI (l.getD (3 + T * 6 + k) 0), refT (l.getD (3 + T * 6 + k) 0)⟩ := by unfold hazF; rw [hT]
     rw [hfk] at hs2
     have hL : ((List.range k).map (hazF c l)).length = k := by rw [List.length_map, List.length_range]
     generalize (List.range k).map (hazF c l) = Q at *
     generalize l.getD (3 + T * 6 + k) 0 = w at *
     have hL2 : (Q.map tRf).length = k := by rw [List.length_map, hL]
     have c4 := fread_c w ⟨w2, w3⟩
     repeat' (first | ((with_reducible refine kAL ?_); (first | (refine kL 906 rfl ?_; first | refine uK (c3) ?_) | (refine kL 1962 rfl ?_; first | refine uK (c4) ?_) | (refine kL 975 rfl ?_; first | refine A_lit rfl rfl 30 1 _ rfl ud30 inf55 (.cons rfl .nil) (els := [[_, _]]) rfl (by first | exact (rfl : _ = List.map tRf [⟨_, _⟩]) | exact qN) rfl (Nat.ne_of_beq_eq_false rfl) (Nat.le_of_ble_eq_true rfl) (Nat.le_of_ble_eq_true rfl) (.push qL qN) ?_) | (refine kL 12 rfl ?_; first | refine A_append_nlsub rfl rfl _ _ 30 rfl ud30 inf55 rfl rfl rfl rfl (by (try simp only [List.length_map, List.length_append, List.length_cons, List.length_nil]); omega) qB qB List.map_drop.symm (.push qL qN) ?_) | refine uA ?_)) | refine uC ?_ | refine kcp rfl (fun hc => ?_) (fun hc => ?_) | refine kcn rfl (fun hc => ?_) (fun hc => ?_) | refine kcb rfl (fun hc => ?_) (fun hc => ?_) | refine kcc rfl (fun hc => ?_) (fun hc => ?_) | fail)
     all_goals first | (exfalso; omega) | skip
     refine ⟨k + 1, by omega, by omega, ?_⟩
     rw [hs2]
     exact Wk.cq 2
    ·have e : k = T := by omega
     rw [e]
     repeat' (first | ((with_reducible refine kAL ?_); (first | (refine kL 975 rfl ?_; first | refine A_lit rfl rfl 30 1 _ rfl ud30 inf55 (.cons rfl .nil) (els := [[_, _]]) rfl (by first | exact qN) rfl (Nat.ne_of_beq_eq_false rfl) (Nat.le_of_ble_eq_true rfl) (Nat.le_of_ble_eq_true rfl) (.push qL qN) ?_) | (refine kL 12 rfl ?_; first | refine A_append_nlsub rfl rfl _ _ 30 rfl ud30 inf55 rfl rfl rfl rfl (by (try simp only [List.length_map, List.length_append, List.length_cons, List.length_nil]); omega) qB qB List.map_drop.symm (.push qL qN) ?_) | refine uA ?_)) | refine uC ?_ | refine kcp rfl (fun hc => ?_) (fun hc => ?_) | refine kcn rfl (fun hc => ?_) (fun hc => ?_) | refine kcb rfl (fun hc => ?_) (fun hc => ?_) | refine kcc rfl (fun hc => ?_) (fun hc => ?_) | fail)
     all_goals first | (exfalso; omega) | ((first | exact Fin.q Try.results11 (.cons (.tmp rfl) .nil) [1] | refine Fin.q Try.results11 (.cons (.tmp rfl) .nil) [1] (hr := (.t ?_)) | refine Fin.mkv (rs := _) Try.results11 (.cons (.tmp rfl) .nil) [1] (by decide) rfl ?_ ?_ ?_ <;> repeat' (skip; first | exact .nil | refine .cons rfl ?_ ?_ | refine .cons ?_ ?_ | refine .row ?_ | refine .rset ?_ | refine .box ?_ | exact .gone | refine .aggL ?_ | refine .tupL ?_ | refine .old rfl ?_ | refine .new rfl rfl rfl ?_ | exact .nl | exact .optr rfl | exact .nptr rfl rfl rfl | refine .t ?_ | exact .any _ | rfl)))
  generalize hazM c l = Q at *
  have h0' := Cd.frz1 h0 0 rfl (by repeat' (first | exact FzL.nil | apply FzL.cons | exact FzR.nlt | exact FzR.all (by first | rfl | (simp <;> fail) | (simp; omega)) | exact FzR.sl (by first | exact Nat.le_refl _ | (simp <;> fail) | (simp; omega)) | apply FzR.aggL | exact FzR.same _)) rfl; exact Cd.drop h0' rfl
theorem rhazM_c (c : DConf) (hs : c.start.length ≤ 1152921504606846976) (l : List Int) (hU : okU l) : Cd Try.prog 12 [aCf c, .ln (l.map tU)] (.t (.lst ((hazM c l).map tRf))) [] := by
 have h1 : (l.map tU).length = l.length := List.length_map _
 have c1 := rfits_c c hs l
 cases hf : fitM c l
 ·rw [hf] at c1
  unfold hazM
  rw [hf, if_neg (by simp)]
  refine Cd.enter' Try.func12 rfl Try.ntmps12 rfl ?_
  repeat' (first | ((with_reducible refine kAL ?_); (first | (refine kL 1994 rfl ?_; first | refine uK (c1) ?_) | (refine kL 975 rfl ?_; first | refine A_lit rfl rfl 30 1 _ rfl ud30 inf55 (.cons rfl .nil) (els := [[_, _]]) rfl (by first | exact qN) rfl (Nat.ne_of_beq_eq_false rfl) (Nat.le_of_ble_eq_true rfl) (Nat.le_of_ble_eq_true rfl) (.push qL qN) ?_) | (refine kL 12 rfl ?_; first | refine A_append_nlsub rfl rfl _ _ 30 rfl ud30 inf55 rfl rfl rfl rfl (by (try simp only [List.length_map, List.length_append, List.length_cons, List.length_nil]); omega) qB qB List.map_drop.symm (.push qL qN) ?_) | refine uA ?_ | refine uS 12 (fun hb => ?_) (fun hb => ?_))) | refine uC ?_ | refine kcp rfl (fun hc => ?_) (fun hc => ?_) | refine kcn rfl (fun hc => ?_) (fun hc => ?_) | refine kcb rfl (fun hc => ?_) (fun hc => ?_) | refine kcc rfl (fun hc => ?_) (fun hc => ?_) | fail)
  all_goals first | (exfalso; omega) | skip
  refine AW.loopP (fun (k : Nat) => True) (fun (k : Nat) => (pu (pu (pu (pu (fun _ => .any) 1 (.ln (l.map tU))) 2 (.ptr 0 0)) 5 (.nl)) 6 (i64 0))) (fun (k : Nat) => [.box 24 [i64 c.kind, i64 c.threads, i64 c.chans, i64 c.cap, i64 c.nodes, i64 c.retire, i64 c.patience, i64 c.tags, i64 c.seqs, i64 c.gens, .ln (c.start.map tI)]]) (fun (k : Nat) => 0) (0) ?_ ?_ ?_
  ·trivial
  ·exact Wk.cq 1
  intro k _
  repeat' (first | ((with_reducible refine kAL ?_); (first | (refine kL 1 rfl ?_; first | ((first | refine A_as (d := 4) rfl rfl rfl rfl ?_ | refine A_move (d := 4) rfl rfl _ (.inr rfl) (y := .sl _ _ _) rfl ?_ | refine A_move (d := 4) rfl rfl _ (.inr rfl) (y := .nl) rfl ?_ | refine A_move (d := 4) rfl rfl _ (.inr rfl) (y := .ptr _ _) rfl ?_ | refine A_move (d := 4) rfl rfl _ (.inr rfl) (y := .ln _) rfl ?_ | refine A_move (d := 4) rfl rfl _ (.inr rfl) (y := .lp _) rfl ?_ | refine A_move (d := 4) rfl rfl _ (.inr rfl) (y := .fn _ _ _) rfl ?_ | refine A_move (d := 4) rfl rfl _ (.inr rfl) (y := .sub _ _ _ _) rfl ?_ | refine A_move (d := 4) rfl rfl _ (.inr rfl) (y := .rp _ _ _ _) rfl ?_ | refine A_move (d := 4) rfl rfl _ (.inr rfl) (y := .agg _) rfl ?_ | refine A_move (d := 4) rfl rfl _ (.inr rfl) (y := .tup _) rfl ?_); (try refine uz 4 ?_))) | (refine kL 1994 rfl ?_; first | refine uK (c1) ?_) | (refine kL 975 rfl ?_; first | refine A_lit rfl rfl 30 1 _ rfl ud30 inf55 (.cons rfl .nil) (els := [[_, _]]) rfl (by first | exact qN) rfl (Nat.ne_of_beq_eq_false rfl) (Nat.le_of_ble_eq_true rfl) (Nat.le_of_ble_eq_true rfl) (.push qL qN) ?_) | (refine kL 12 rfl ?_; first | refine A_append_nlsub rfl rfl _ _ 30 rfl ud30 inf55 rfl rfl rfl rfl (by (try simp only [List.length_map, List.length_append, List.length_cons, List.length_nil]); omega) qB qB List.map_drop.symm (.push qL qN) ?_) | refine uA ?_ | refine uS 12 (fun hb => ?_) (fun hb => ?_))) | refine uC ?_ | refine kcp rfl (fun hc => ?_) (fun hc => ?_) | refine kcn rfl (fun hc => ?_) (fun hc => ?_) | refine kcb rfl (fun hc => ?_) (fun hc => ?_) | refine kcc rfl (fun hc => ?_) (fun hc => ?_) | fail)
  all_goals first | (exfalso; omega) | ((first | exact Fin.q Try.results12 (.cons (.tmp rfl) .nil) [] | refine Fin.q Try.results12 (.cons (.tmp rfl) .nil) [] (hr := (.t ?_)) | refine Fin.mkv (rs := _) Try.results12 (.cons (.tmp rfl) .nil) [] (by decide) rfl ?_ ?_ ?_ <;> repeat' (skip; first | exact .nil | refine .cons rfl ?_ ?_ | refine .cons ?_ ?_ | refine .row ?_ | refine .rset ?_ | refine .box ?_ | exact .gone | refine .aggL ?_ | refine .tupL ?_ | refine .old rfl ?_ | refine .new rfl rfl rfl ?_ | exact .nl | exact .optr rfl | exact .nptr rfl rfl rfl | refine .t ?_ | exact .any _ | rfl)))
 ·obtain ⟨T, X, F⟩ := fm_of hf
  have hth := F.th
  have ht0 := F.t0
  have hT : c.threads.toNat = T := by omega
  have hM : hazM c l = (List.range T).map (hazF c l) := by unfold hazM; rw [hf, if_pos rfl, hT]
  have hlen : (hazM c l).length = T := by rw [hM, List.length_map, List.length_range]
  rw [hf] at c1
  have h0 : Cd Try.prog 12 [aCf c, .ln (l.map tU)] (.sl 0 0 (hazM c l).length) [.row 0 55 2 ((hazM c l).map tRf)] := by
   rw [hlen, hM]
   refine Cd.enter' Try.func12 rfl Try.ntmps12 rfl ?_
   repeat' (first | ((with_reducible refine kAL ?_); (first | (refine kL 1994 rfl ?_; first | refine uK (c1) ?_) | (refine kL 975 rfl ?_; first | refine A_lit rfl rfl 30 1 _ rfl ud30 inf55 (.cons rfl .nil) (els := [[_, _]]) rfl (by first | exact qN) rfl (Nat.ne_of_beq_eq_false rfl) (Nat.le_of_ble_eq_true rfl) (Nat.le_of_ble_eq_true rfl) (.push qL qN) ?_) | (refine kL 12 rfl ?_; first | refine A_append_nlsub rfl rfl _ _ 30 rfl ud30 inf55 rfl rfl rfl rfl (by (try simp only [List.length_map, List.length_append, List.length_cons, List.length_nil]); omega) qB qB List.map_drop.symm (.push qL qN) ?_) | refine uA ?_ | refine uS 12 (fun hb => ?_) (fun hb => ?_))) | refine uC ?_ | refine kcp rfl (fun hc => ?_) (fun hc => ?_) | refine kcn rfl (fun hc => ?_) (fun hc => ?_) | refine kcb rfl (fun hc => ?_) (fun hc => ?_) | refine kcc rfl (fun hc => ?_) (fun hc => ?_) | fail)
   all_goals first | (exfalso; omega) | skip
   refine AW.wk (Wk.own 5 rfl 55 2 (.push rfl rfl)) ?_
   refine AW.loopP (fun (k : Nat) => k ≤ T) (fun (k : Nat) => (pu (pu (pu (pu (fun _ => .any) 1 (.ln (l.map tU))) 2 (.ptr 0 0)) 5 (.sl 1 k k)) 6 (i64 k))) (fun (k : Nat) => [.box 24 [i64 c.kind, i64 c.threads, i64 c.chans, i64 c.cap, i64 c.nodes, i64 c.retire, i64 c.patience, i64 c.tags, i64 c.seqs, i64 c.gens, .ln (c.start.map tI)], .row k 55 2 (((List.range k).map (hazF c l)).map tRf)]) (fun (k : Nat) => T - k) (0) ?_ ?_ ?_
   ·exact Nat.zero_le _
   ·exact Wk.cq 2
   ·intro k hk
    by_cases hk2 : k < T
    ·obtain ⟨e1, e2⟩ := F.haz hk2
     have c3 := rhazL_c c k
     rw [e1] at c3
     obtain ⟨w1, w2, w3⟩ := u_at hU e2
     have hs2 := rng_map (hazF c l) k
     have hfk : hazF c l k = ⟨refI (l.getD (3 + T * 6 + k) 0), refT (l.getD (3 + T * 6 + k) 0)⟩ := by unfold hazF; rw [hT]
     rw [hfk] at hs2
     have hL : ((List.range k).map (hazF c l)).length = k := by rw [List.length_map, List.length_range]
     generalize (List.range k).map (hazF c l) = Q at *
     generalize l.getD (3 + T * 6 + k) 0 = w at *
     have hL2 : (Q.map tRf).length = k := by rw [List.length_map, hL]
     have c4 := fread1_c w ⟨w2, w3⟩
     repeat' (first | ((with_reducible refine kAL ?_); (first | (refine kL 1994 rfl ?_; first | refine uK (c1) ?_) | (refine kL 938 rfl ?_; first | refine uK (c3) ?_) | (refine kL 2026 rfl ?_; first | refine uK (c4) ?_) | (refine kL 975 rfl ?_; first | refine A_lit rfl rfl 30 1 _ rfl ud30 inf55 (.cons rfl .nil) (els := [[_, _]]) rfl (by first | exact (rfl : _ = List.map tRf [⟨_, _⟩]) | exact qN) rfl (Nat.ne_of_beq_eq_false rfl) (Nat.le_of_ble_eq_true rfl) (Nat.le_of_ble_eq_true rfl) (.push qL qN) ?_) | (refine kL 12 rfl ?_; first | refine A_append_nlsub rfl rfl _ _ 30 rfl ud30 inf55 rfl rfl rfl rfl (by (try simp only [List.length_map, List.length_append, List.length_cons, List.length_nil]); omega) qB qB List.map_drop.symm (.push qL qN) ?_) | refine uA ?_ | refine uS 12 (fun hb => ?_) (fun hb => ?_))) | refine uC ?_ | refine kcp rfl (fun hc => ?_) (fun hc => ?_) | refine kcn rfl (fun hc => ?_) (fun hc => ?_) | refine kcb rfl (fun hc => ?_) (fun hc => ?_) | refine kcc rfl (fun hc => ?_) (fun hc => ?_) | fail)
     all_goals first | (exfalso; omega) | skip
     refine ⟨k + 1, by omega, by omega, ?_⟩
     rw [hs2]
     exact Wk.cq 2
    ·have e : k = T := by omega
     rw [e]
     repeat' (first | ((with_reducible refine kAL ?_); (first | (refine kL 1994 rfl ?_; first | refine uK (c1) ?_) | (refine kL 975 rfl ?_; first | refine A_lit rfl rfl 30 1 _ rfl ud30 inf55 (.cons rfl .nil) (els := [[_, _]]) rfl (by first | exact qN) rfl (Nat.ne_of_beq_eq_false rfl) (Nat.le_of_ble_eq_true rfl) (Nat.le_of_ble_eq_true rfl) (.push qL qN) ?_) | (refine kL 12 rfl ?_; first | refine A_append_nlsub rfl rfl _ _ 30 rfl ud30 inf55 rfl rfl rfl rfl (by (try simp only [List.length_map, List.length_append, List.length_cons, List.length_nil]); omega) qB qB List.map_drop.symm (.push qL qN) ?_) | refine uA ?_ | refine uS 12 (fun hb => ?_) (fun hb => ?_))) | refine uC ?_ | refine kcp rfl (fun hc => ?_) (fun hc => ?_) | refine kcn rfl (fun hc => ?_) (fun hc => ?_) | refine kcb rfl (fun hc => ?_) (fun hc => ?_) | refine kcc rfl (fun hc => ?_) (fun hc => ?_) | fail)
     all_goals first | (exfalso; omega) | ((first | exact Fin.q Try.results12 (.cons (.tmp rfl) .nil) [1] | refine Fin.q Try.results12 (.cons (.tmp rfl) .nil) [1] (hr := (.t ?_)) | refine Fin.mkv (rs := _) Try.results12 (.cons (.tmp rfl) .nil) [1] (by decide) rfl ?_ ?_ ?_ <;> repeat' (skip; first | exact .nil | refine .cons rfl ?_ ?_ | refine .cons ?_ ?_ | refine .row ?_ | refine .rset ?_ | refine .box ?_ | exact .gone | refine .aggL ?_ | refine .tupL ?_ | refine .old rfl ?_ | refine .new rfl rfl rfl ?_ | exact .nl | exact .optr rfl | exact .nptr rfl rfl rfl | refine .t ?_ | exact .any _ | rfl)))
  generalize hazM c l = Q at *
  have h0' := Cd.frz1 h0 0 rfl (by repeat' (first | exact FzL.nil | apply FzL.cons | exact FzR.nlt | exact FzR.all (by first | rfl | (simp <;> fail) | (simp; omega)) | exact FzR.sl (by first | exact Nat.le_refl _ | (simp <;> fail) | (simp; omega)) | apply FzR.aggL | exact FzR.same _)) rfl; exact Cd.drop h0' rfl
theorem iepM_c (c : DConf) (hs : c.start.length ≤ 1152921504606846976) (l : List Int) (hU : okU l) : Cd Try.prog 14 [aCf c, .ln (l.map tU)] (.t (.lst ((epM c l).map tI))) [] := by
 have h1 : (l.map tU).length = l.length := List.length_map _
 have c1 := ifits_c c hs l
 cases hf : fitM c l
 ·rw [hf] at c1
  unfold epM
  rw [hf, if_neg (by simp)]
  refine Cd.enter' Try.func14 rfl Try.ntmps14 rfl ?_
  repeat' (first | ((with_reducible refine kAL ?_); (first | (refine kL 1 rfl ?_; first | ((first | refine A_as (d := 4) rfl rfl rfl rfl ?_ | refine A_move (d := 4) rfl rfl _ (.inr rfl) (y := .sl _ _ _) rfl ?_ | refine A_move (d := 4) rfl rfl _ (.inr rfl) (y := .nl) rfl ?_ | refine A_move (d := 4) rfl rfl _ (.inr rfl) (y := .ptr _ _) rfl ?_ | refine A_move (d := 4) rfl rfl _ (.inr rfl) (y := .ln _) rfl ?_ | refine A_move (d := 4) rfl rfl _ (.inr rfl) (y := .lp _) rfl ?_ | refine A_move (d := 4) rfl rfl _ (.inr rfl) (y := .fn _ _ _) rfl ?_ | refine A_move (d := 4) rfl rfl _ (.inr rfl) (y := .sub _ _ _ _) rfl ?_ | refine A_move (d := 4) rfl rfl _ (.inr rfl) (y := .rp _ _ _ _) rfl ?_ | refine A_move (d := 4) rfl rfl _ (.inr rfl) (y := .agg _) rfl ?_ | refine A_move (d := 4) rfl rfl _ (.inr rfl) (y := .tup _) rfl ?_); (try refine uz 4 ?_))) | (refine kL 1930 rfl ?_; first | refine uK (c1) ?_) | (refine kL 2217 rfl ?_; first | refine A_shr rfl rfl 69 78 _ _ rfl rfl rfl (by decide) (fdiv_lit (m := 2) rfl (by decide)) ?_ | refine A_shr rfl rfl 69 78 _ _ rfl rfl rfl (by first | decide | omega) rfl ?_) | (refine kL 719 rfl ?_; first | refine A_lit rfl rfl 22 1 _ rfl ud22 inf3 (.cons rfl .nil) (els := [[_]]) rfl (by first | exact qN) rfl (Nat.ne_of_beq_eq_false rfl) (Nat.le_of_ble_eq_true rfl) (Nat.le_of_ble_eq_true rfl) (.push qL qN) ?_) | (refine kL 12 rfl ?_; first | refine A_append_nlsub rfl rfl _ _ 22 rfl ud22 inf3 rfl rfl rfl rfl (by (try simp only [List.length_map, List.length_append, List.length_cons, List.length_nil]); omega) qB qB List.map_drop.symm (.push qL qN) ?_) | refine uA ?_)) | refine uC ?_ | refine kcp rfl (fun hc => ?_) (fun hc => ?_) | refine kcn rfl (fun hc => ?_) (fun hc => ?_) | refine kcb rfl (fun hc => ?_) (fun hc => ?_) | refine kcc rfl (fun hc => ?_) (fun hc => ?_) | fail)
  all_goals first | (exfalso; omega) | ((first | exact Fin.q Try.results14 (.cons (.tmp rfl) .nil) [] | refine Fin.q Try.results14 (.cons (.tmp rfl) .nil) [] (hr := (.t ?_)) | refine Fin.mkv (rs := _) Try.results14 (.cons (.tmp rfl) .nil) [] (by decide) rfl ?_ ?_ ?_ <;> repeat' (skip; first | exact .nil | refine .cons rfl ?_ ?_ | refine .cons ?_ ?_ | refine .row ?_ | refine .rset ?_ | refine .box ?_ | exact .gone | refine .aggL ?_ | refine .tupL ?_ | refine .old rfl ?_ | refine .new rfl rfl rfl ?_ | exact .nl | exact .optr rfl | exact .nptr rfl rfl rfl | refine .t ?_ | exact .any _ | rfl)))
 ·obtain ⟨T, X, F⟩ := fm_of hf
  have hth := F.th
  have ht0 := F.t0
  have hT : c.threads.toNat = T := by omega
  have hM : epM c l = (List.range T).map (epF c l) := by unfold epM; rw [hf, if_pos rfl, hT]
  have hlen : (epM c l).length = T := by rw [hM, List.length_map, List.length_range]
  rw [hf] at c1
  have h0 : Cd Try.prog 14 [aCf c, .ln (l.map tU)] (.sl 0 0 (epM c l).length) [.row 0 3 1 ((epM c l).map tI)] := by
   rw [hlen, hM]
   refine Cd.enter' Try.func14 rfl Try.ntmps14 rfl ?_
   repeat' (first | ((with_reducible refine kAL ?_); (first | (refine kL 1930 rfl ?_; first | refine uK (c1) ?_) | (refine kL 2217 rfl ?_; first | refine A_shr rfl rfl 69 78 _ _ rfl rfl rfl (by decide) (fdiv_lit (m := 2) rfl (by decide)) ?_ | refine A_shr rfl rfl 69 78 _ _ rfl rfl rfl (by first | decide | omega) rfl ?_) | (refine kL 719 rfl ?_; first | refine A_lit rfl rfl 22 1 _ rfl ud22 inf3 (.cons rfl .nil) (els := [[_]]) rfl (by first | exact qN) rfl (Nat.ne_of_beq_eq_false rfl) (Nat.le_of_ble_eq_true rfl) (Nat.le_of_ble_eq_true rfl) (.push qL qN) ?_) | (refine kL 12 rfl ?_; first | refine A_append_nlsub rfl rfl _ _ 22 rfl ud22 inf3 rfl rfl rfl rfl (by (try simp only [List.length_map, List.length_append, List.length_cons, List.length_nil]); omega) qB qB List.map_drop.symm (.push qL qN) ?_) | refine uA ?_)) | refine uC ?_ | refine kcp rfl (fun hc => ?_) (fun hc => ?_) | refine kcn rfl (fun hc => ?_) (fun hc => ?_) | refine kcb rfl (fun hc => ?_) (fun hc => ?_) | refine kcc rfl (fun hc => ?_) (fun hc => ?_) | fail)
   all_goals first | (exfalso; omega) | skip
   refine AW.wk (Wk.own 5 rfl 3 1 (.push rfl rfl)) ?_
   refine AW.loopP (fun (k : Nat) => k ≤ T) (fun (k : Nat) => (pu (pu (pu (pu (pu (fun _ => .any) 1 (.ln (l.map tU))) 2 (.ptr 0 0)) 5 (.sl 1 k k)) 13 (i64 c.threads)) 14 (i64 k))) (fun (k : Nat) => [.box 24 [i64 c.kind, i64 c.threads, i64 c.chans, i64 c.cap, i64 c.nodes, i64 c.retire, i64 c.patience, i64 c.tags, i64 c.seqs, i64 c.gens, .ln (c.start.map tI)], .row k 3 1 (((List.range k).map (epF c l)).map tI)]) (fun (k : Nat) => T - k) (0) ?_ ?_ ?_
   ·exact Nat.zero_le _
   ·exact Wk.cq 2
   ·intro k hk
    by_cases hk2 : k < T
    ·obtain ⟨e1, e2⟩ := F.ep hk2
     have c3 := epL_c c k
     rw [e1] at c3
     obtain ⟨w1, w2, w3⟩ := u_at hU e2
     have hs2 := rng_map (epF c l) k
     have hfk : epF c l k = if l.getD (3 + T * 7 + k) 0 = 0 then -1 else l.getD (3 + T * 7 + k) 0 / 2 := by unfold epF; rw [hT]
     rw [hfk] at hs2
     have hL : ((List.range k).map (epF c l)).length = k := by rw [List.length_map, List.length_range]
     generalize (List.range k).map (epF c l) = Q at *
     generalize l.getD (3 + T * 7 + k) 0 = w at *
     have hL2 : (Q.map tI).length = k := by rw [List.length_map, hL]
     by_cases hz : w = 0
     ·subst hz
      rw [if_pos rfl] at hs2
      repeat' (first | ((with_reducible refine kAL ?_); (first | (refine kL 970 rfl ?_; first | refine uK (c3) ?_) | (refine kL 2217 rfl ?_; first | refine A_shr rfl rfl 69 78 _ _ rfl rfl rfl (by decide) (fdiv_lit (m := 2) rfl (by decide)) ?_ | refine A_shr rfl rfl 69 78 _ _ rfl rfl rfl (by first | decide | omega) rfl ?_) | (refine kL 719 rfl ?_; first | refine A_lit rfl rfl 22 1 _ rfl ud22 inf3 (.cons rfl .nil) (els := [[_]]) rfl (by first | exact (rfl : _ = List.map tI [_]) | exact qN) rfl (Nat.ne_of_beq_eq_false rfl) (Nat.le_of_ble_eq_true rfl) (Nat.le_of_ble_eq_true rfl) (.push qL qN) ?_) | (refine kL 12 rfl ?_; first | refine A_append_nlsub rfl rfl _ _ 22 rfl ud22 inf3 rfl rfl rfl rfl (by (try simp only [List.length_map, List.length_append, List.length_cons, List.length_nil]); omega) qB qB List.map_drop.symm (.push qL qN) ?_) | refine uA ?_)) | refine uC ?_ | refine kcp rfl (fun hc => ?_) (fun hc => ?_) | refine kcn rfl (fun hc => ?_) (fun hc => ?_) | refine kcb rfl (fun hc => ?_) (fun hc => ?_) | refine kcc rfl (fun hc => ?_) (fun hc => ?_) | fail)
      all_goals first | (exfalso; omega) | skip
      refine ⟨k + 1, by omega, by omega, ?_⟩
      rw [hs2]
      exact Wk.cq 2
     ·rw [if_neg hz] at hs2
      repeat' (first | ((with_reducible refine kAL ?_); (first | (refine kL 970 rfl ?_; first | refine uK (c3) ?_) | (refine kL 2217 rfl ?_; first | refine A_shr rfl rfl 69 78 _ _ rfl rfl rfl (by decide) (fdiv_lit (m := 2) rfl (by decide)) ?_ | refine A_shr rfl rfl 69 78 _ _ rfl rfl rfl (by first | decide | omega) rfl ?_) | (refine kL 719 rfl ?_; first | refine A_lit rfl rfl 22 1 _ rfl ud22 inf3 (.cons rfl .nil) (els := [[_]]) rfl (by first | exact (rfl : _ = List.map tI [_]) | exact qN) rfl (Nat.ne_of_beq_eq_false rfl) (Nat.le_of_ble_eq_true rfl) (Nat.le_of_ble_eq_true rfl) (.push qL qN) ?_) | (refine kL 12 rfl ?_; first | refine A_append_nlsub rfl rfl _ _ 22 rfl ud22 inf3 rfl rfl rfl rfl (by (try simp only [List.length_map, List.length_append, List.length_cons, List.length_nil]); omega) qB qB List.map_drop.symm (.push qL qN) ?_) | refine uA ?_)) | refine uC ?_ | refine kcp rfl (fun hc => ?_) (fun hc => ?_) | refine kcn rfl (fun hc => ?_) (fun hc => ?_) | refine kcb rfl (fun hc => ?_) (fun hc => ?_) | refine kcc rfl (fun hc => ?_) (fun hc => ?_) | fail)
      all_goals first | (exfalso; omega) | skip
      refine ⟨k + 1, by omega, by omega, ?_⟩
      rw [hs2]
      exact Wk.cq 2
    ·have e : k = T := by omega
     rw [e]
     repeat' (first | ((with_reducible refine kAL ?_); (first | (refine kL 2217 rfl ?_; first | refine A_shr rfl rfl 69 78 _ _ rfl rfl rfl (by decide) (fdiv_lit (m := 2) rfl (by decide)) ?_ | refine A_shr rfl rfl 69 78 _ _ rfl rfl rfl (by first | decide | omega) rfl ?_) | (refine kL 719 rfl ?_; first | refine A_lit rfl rfl 22 1 _ rfl ud22 inf3 (.cons rfl .nil) (els := [[_]]) rfl (by first | exact qN) rfl (Nat.ne_of_beq_eq_false rfl) (Nat.le_of_ble_eq_true rfl) (Nat.le_of_ble_eq_true rfl) (.push qL qN) ?_) | (refine kL 12 rfl ?_; first | refine A_append_nlsub rfl rfl _ _ 22 rfl ud22 inf3 rfl rfl rfl rfl (by (try simp only [List.length_map, List.length_append, List.length_cons, List.length_nil]); omega) qB qB List.map_drop.symm (.push qL qN) ?_) | refine uA ?_)) | refine uC ?_ | refine kcp rfl (fun hc => ?_) (fun hc => ?_) | refine kcn rfl (fun hc => ?_) (fun hc => ?_) | refine kcb rfl (fun hc => ?_) (fun hc => ?_) | refine kcc rfl (fun hc => ?_) (fun hc => ?_) | fail)
     all_goals first | (exfalso; omega) | ((first | exact Fin.q Try.results14 (.cons (.tmp rfl) .nil) [1] | refine Fin.q Try.results14 (.cons (.tmp rfl) .nil) [1] (hr := (.t ?_)) | refine Fin.mkv (rs := _) Try.results14 (.cons (.tmp rfl) .nil) [1] (by decide) rfl ?_ ?_ ?_ <;> repeat' (skip; first | exact .nil | refine .cons rfl ?_ ?_ | refine .cons ?_ ?_ | refine .row ?_ | refine .rset ?_ | refine .box ?_ | exact .gone | refine .aggL ?_ | refine .tupL ?_ | refine .old rfl ?_ | refine .new rfl rfl rfl ?_ | exact .nl | exact .optr rfl | exact .nptr rfl rfl rfl | refine .t ?_ | exact .any _ | rfl)))
  generalize epM c l = Q at *
  have h0' := Cd.frz1 h0 0 rfl (by repeat' (first | exact FzL.nil | apply FzL.cons | exact FzR.nlt | exact FzR.all (by first | rfl | (simp <;> fail) | (simp; omega)) | exact FzR.sl (by first | exact Nat.le_refl _ | (simp <;> fail) | (simp; omega)) | apply FzR.aggL | exact FzR.same _)) rfl; exact Cd.drop h0' rfl
theorem repM_c (c : DConf) (hs : c.start.length ≤ 1152921504606846976) (l : List Int) (hU : okU l) : Cd Try.prog 15 [aCf c, .ln (l.map tU)] (.t (.lst ((epM c l).map tI))) [] := by
 have h1 : (l.map tU).length = l.length := List.length_map _
 have c1 := rfits_c c hs l
 cases hf : fitM c l
 ·rw [hf] at c1
  unfold epM
  rw [hf, if_neg (by simp)]
  refine Cd.enter' Try.func15 rfl Try.ntmps15 rfl ?_
  repeat' (first | ((with_reducible refine kAL ?_); (first | (refine kL 1994 rfl ?_; first | refine uK (c1) ?_) | (refine kL 719 rfl ?_; first | refine A_lit rfl rfl 22 1 _ rfl ud22 inf3 (.cons rfl .nil) (els := [[_]]) rfl (by first | exact qN) rfl (Nat.ne_of_beq_eq_false rfl) (Nat.le_of_ble_eq_true rfl) (Nat.le_of_ble_eq_true rfl) (.push qL qN) ?_) | (refine kL 12 rfl ?_; first | refine A_append_nlsub rfl rfl _ _ 22 rfl ud22 inf3 rfl rfl rfl rfl (by (try simp only [List.length_map, List.length_append, List.length_cons, List.length_nil]); omega) qB qB List.map_drop.symm (.push qL qN) ?_) | refine uA ?_ | refine uS 12 (fun hb => ?_) (fun hb => ?_))) | refine uC ?_ | refine kcp rfl (fun hc => ?_) (fun hc => ?_) | refine kcn rfl (fun hc => ?_) (fun hc => ?_) | refine kcb rfl (fun hc => ?_) (fun hc => ?_) | refine kcc rfl (fun hc => ?_) (fun hc => ?_) | fail)
  all_goals first | (exfalso; omega) | skip
  refine AW.loopP (fun (k : Nat) => True) (fun (k : Nat) => (pu (pu (pu (pu (fun _ => .any) 1 (.ln (l.map tU))) 2 (.ptr 0 0)) 5 (.nl)) 6 (i64 0))) (fun (k : Nat) => [.box 24 [i64 c.kind, i64 c.threads, i64 c.chans, i64 c.cap, i64 c.nodes, i64 c.retire, i64 c.patience, i64 c.tags, i64 c.seqs, i64 c.gens, .ln (c.start.map tI)]]) (fun (k : Nat) => 0) (0) ?_ ?_ ?_
  ·trivial
  ·exact Wk.cq 1
  intro k _
  repeat' (first | ((with_reducible refine kAL ?_); (first | (refine kL 1 rfl ?_; first | ((first | refine A_as (d := 4) rfl rfl rfl rfl ?_ | refine A_move (d := 4) rfl rfl _ (.inr rfl) (y := .sl _ _ _) rfl ?_ | refine A_move (d := 4) rfl rfl _ (.inr rfl) (y := .nl) rfl ?_ | refine A_move (d := 4) rfl rfl _ (.inr rfl) (y := .ptr _ _) rfl ?_ | refine A_move (d := 4) rfl rfl _ (.inr rfl) (y := .ln _) rfl ?_ | refine A_move (d := 4) rfl rfl _ (.inr rfl) (y := .lp _) rfl ?_ | refine A_move (d := 4) rfl rfl _ (.inr rfl) (y := .fn _ _ _) rfl ?_ | refine A_move (d := 4) rfl rfl _ (.inr rfl) (y := .sub _ _ _ _) rfl ?_ | refine A_move (d := 4) rfl rfl _ (.inr rfl) (y := .rp _ _ _ _) rfl ?_ | refine A_move (d := 4) rfl rfl _ (.inr rfl) (y := .agg _) rfl ?_ | refine A_move (d := 4) rfl rfl _ (.inr rfl) (y := .tup _) rfl ?_); (try refine uz 4 ?_))) | (refine kL 1994 rfl ?_; first | refine uK (c1) ?_) | (refine kL 719 rfl ?_; first | refine A_lit rfl rfl 22 1 _ rfl ud22 inf3 (.cons rfl .nil) (els := [[_]]) rfl (by first | exact qN) rfl (Nat.ne_of_beq_eq_false rfl) (Nat.le_of_ble_eq_true rfl) (Nat.le_of_ble_eq_true rfl) (.push qL qN) ?_) | (refine kL 12 rfl ?_; first | refine A_append_nlsub rfl rfl _ _ 22 rfl ud22 inf3 rfl rfl rfl rfl (by (try simp only [List.length_map, List.length_append, List.length_cons, List.length_nil]); omega) qB qB List.map_drop.symm (.push qL qN) ?_) | refine uA ?_ | refine uS 12 (fun hb => ?_) (fun hb => ?_))) | refine uC ?_ | refine kcp rfl (fun hc => ?_) (fun hc => ?_) | refine kcn rfl (fun hc => ?_) (fun hc => ?_) | refine kcb rfl (fun hc => ?_) (fun hc => ?_) | refine kcc rfl (fun hc => ?_) (fun hc => ?_) | fail)
  all_goals first | (exfalso; omega) | ((first | exact Fin.q Try.results15 (.cons (.tmp rfl) .nil) [] | refine Fin.q Try.results15 (.cons (.tmp rfl) .nil) [] (hr := (.t ?_)) | refine Fin.mkv (rs := _) Try.results15 (.cons (.tmp rfl) .nil) [] (by decide) rfl ?_ ?_ ?_ <;> repeat' (skip; first | exact .nil | refine .cons rfl ?_ ?_ | refine .cons ?_ ?_ | refine .row ?_ | refine .rset ?_ | refine .box ?_ | exact .gone | refine .aggL ?_ | refine .tupL ?_ | refine .old rfl ?_ | refine .new rfl rfl rfl ?_ | exact .nl | exact .optr rfl | exact .nptr rfl rfl rfl | refine .t ?_ | exact .any _ | rfl)))
 ·obtain ⟨T, X, F⟩ := fm_of hf
  have hth := F.th
  have ht0 := F.t0
  have hT : c.threads.toNat = T := by omega
  have hM : epM c l = (List.range T).map (epF c l) := by unfold epM; rw [hf, if_pos rfl, hT]
  have hlen : (epM c l).length = T := by rw [hM, List.length_map, List.length_range]
  rw [hf] at c1
  have h0 : Cd Try.prog 15 [aCf c, .ln (l.map tU)] (.sl 0 0 (epM c l).length) [.row 0 3 1 ((epM c l).map tI)] := by
   rw [hlen, hM]
   refine Cd.enter' Try.func15 rfl Try.ntmps15 rfl ?_
   repeat' (first | ((with_reducible refine kAL ?_); (first | (refine kL 1994 rfl ?_; first | refine uK (c1) ?_) | (refine kL 719 rfl ?_; first | refine A_lit rfl rfl 22 1 _ rfl ud22 inf3 (.cons rfl .nil) (els := [[_]]) rfl (by first | exact qN) rfl (Nat.ne_of_beq_eq_false rfl) (Nat.le_of_ble_eq_true rfl) (Nat.le_of_ble_eq_true rfl) (.push qL qN) ?_) | (refine kL 12 rfl ?_; first | refine A_append_nlsub rfl rfl _ _ 22 rfl ud22 inf3 rfl rfl rfl rfl (by (try simp only [List.length_map, List.length_append, List.length_cons, List.length_nil]); omega) qB qB List.map_drop.symm (.push qL qN) ?_) | refine uA ?_ | refine uS 12 (fun hb => ?_) (fun hb => ?_))) | refine uC ?_ | refine kcp rfl (fun hc => ?_) (fun hc => ?_) | refine kcn rfl (fun hc => ?_) (fun hc => ?_) | refine kcb rfl (fun hc => ?_) (fun hc => ?_) | refine kcc rfl (fun hc => ?_) (fun hc => ?_) | fail)
   all_goals first | (exfalso; omega) | skip
   refine AW.wk (Wk.own 5 rfl 3 1 (.push rfl rfl)) ?_
   refine AW.loopP (fun (k : Nat) => k ≤ T) (fun (k : Nat) => (pu (pu (pu (pu (fun _ => .any) 1 (.ln (l.map tU))) 2 (.ptr 0 0)) 5 (.sl 1 k k)) 6 (i64 k))) (fun (k : Nat) => [.box 24 [i64 c.kind, i64 c.threads, i64 c.chans, i64 c.cap, i64 c.nodes, i64 c.retire, i64 c.patience, i64 c.tags, i64 c.seqs, i64 c.gens, .ln (c.start.map tI)], .row k 3 1 (((List.range k).map (epF c l)).map tI)]) (fun (k : Nat) => T - k) (0) ?_ ?_ ?_
   ·exact Nat.zero_le _
   ·exact Wk.cq 2
   ·intro k hk
    by_cases hk2 : k < T
    ·obtain ⟨e1, e2⟩ := F.ep hk2
     have c3 := repL_c c k
     rw [e1] at c3
     obtain ⟨w1, w2, w3⟩ := u_at hU e2
     have hs2 := rng_map (epF c l) k
     have hfk : epF c l k = if l.getD (3 + T * 7 + k) 0 = 0 then -1 else l.getD (3 + T * 7 + k) 0 / 2 := by unfold epF; rw [hT]
     rw [hfk] at hs2
     have hL : ((List.range k).map (epF c l)).length = k := by rw [List.length_map, List.length_range]
     generalize (List.range k).map (epF c l) = Q at *
     generalize l.getD (3 + T * 7 + k) 0 = w at *
     have hL2 : (Q.map tI).length = k := by rw [List.length_map, hL]
     by_cases hz : w = 0
     ·subst hz
      rw [if_pos rfl] at hs2
      repeat' (first | ((with_reducible refine kAL ?_); (first | (refine kL 1994 rfl ?_; first | refine uK (c1) ?_) | (refine kL 1002 rfl ?_; first | refine uK (c3) ?_) | (refine kL 719 rfl ?_; first | refine A_lit rfl rfl 22 1 _ rfl ud22 inf3 (.cons rfl .nil) (els := [[_]]) rfl (by first | exact (rfl : _ = List.map tI [_]) | exact qN) rfl (Nat.ne_of_beq_eq_false rfl) (Nat.le_of_ble_eq_true rfl) (Nat.le_of_ble_eq_true rfl) (.push qL qN) ?_) | (refine kL 12 rfl ?_; first | refine A_append_nlsub rfl rfl _ _ 22 rfl ud22 inf3 rfl rfl rfl rfl (by (try simp only [List.length_map, List.length_append, List.length_cons, List.length_nil]); omega) qB qB List.map_drop.symm (.push qL qN) ?_) | refine uA ?_ | refine uS 12 (fun hb => ?_) (fun hb => ?_))) | refine uC ?_ | refine kcp rfl (fun hc => ?_) (fun hc => ?_) | refine kcn rfl (fun hc => ?_) (fun hc => ?_) | refine kcb rfl (fun hc => ?_) (fun hc => ?_) | refine kcc rfl (fun hc => ?_) (fun hc => ?_) | fail)
      all_goals first | (exfalso; omega) | skip
      refine ⟨k + 1, by omega, by omega, ?_⟩
      rw [hs2]
      exact Wk.cq 2
     ·rw [if_neg hz] at hs2
      repeat' (first | ((with_reducible refine kAL ?_); (first | (refine kL 1994 rfl ?_; first | refine uK (c1) ?_) | (refine kL 1002 rfl ?_; first | refine uK (c3) ?_) | (refine kL 719 rfl ?_; first | refine A_lit rfl rfl 22 1 _ rfl ud22 inf3 (.cons rfl .nil) (els := [[_]]) rfl (by first | exact (rfl : _ = List.map tI [_]) | exact qN) rfl (Nat.ne_of_beq_eq_false rfl) (Nat.le_of_ble_eq_true rfl) (Nat.le_of_ble_eq_true rfl) (.push qL qN) ?_) | (refine kL 12 rfl ?_; first | refine A_append_nlsub rfl rfl _ _ 22 rfl ud22 inf3 rfl rfl rfl rfl (by (try simp only [List.length_map, List.length_append, List.length_cons, List.length_nil]); omega) qB qB List.map_drop.symm (.push qL qN) ?_) | refine uA ?_ | refine uS 12 (fun hb => ?_) (fun hb => ?_))) | refine uC ?_ | refine kcp rfl (fun hc => ?_) (fun hc => ?_) | refine kcn rfl (fun hc => ?_) (fun hc => ?_) | refine kcb rfl (fun hc => ?_) (fun hc => ?_) | refine kcc rfl (fun hc => ?_) (fun hc => ?_) | fail)
      all_goals first | (exfalso; omega) | skip
      refine ⟨k + 1, by omega, by omega, ?_⟩
      rw [hs2]
      exact Wk.cq 2
    ·have e : k = T := by omega
     rw [e]
     repeat' (first | ((with_reducible refine kAL ?_); (first | (refine kL 1994 rfl ?_; first | refine uK (c1) ?_) | (refine kL 719 rfl ?_; first | refine A_lit rfl rfl 22 1 _ rfl ud22 inf3 (.cons rfl .nil) (els := [[_]]) rfl (by first | exact qN) rfl (Nat.ne_of_beq_eq_false rfl) (Nat.le_of_ble_eq_true rfl) (Nat.le_of_ble_eq_true rfl) (.push qL qN) ?_) | (refine kL 12 rfl ?_; first | refine A_append_nlsub rfl rfl _ _ 22 rfl ud22 inf3 rfl rfl rfl rfl (by (try simp only [List.length_map, List.length_append, List.length_cons, List.length_nil]); omega) qB qB List.map_drop.symm (.push qL qN) ?_) | refine uA ?_ | refine uS 12 (fun hb => ?_) (fun hb => ?_))) | refine uC ?_ | refine kcp rfl (fun hc => ?_) (fun hc => ?_) | refine kcn rfl (fun hc => ?_) (fun hc => ?_) | refine kcb rfl (fun hc => ?_) (fun hc => ?_) | refine kcc rfl (fun hc => ?_) (fun hc => ?_) | fail)
     all_goals first | (exfalso; omega) | ((first | exact Fin.q Try.results15 (.cons (.tmp rfl) .nil) [1] | refine Fin.q Try.results15 (.cons (.tmp rfl) .nil) [1] (hr := (.t ?_)) | refine Fin.mkv (rs := _) Try.results15 (.cons (.tmp rfl) .nil) [1] (by decide) rfl ?_ ?_ ?_ <;> repeat' (skip; first | exact .nil | refine .cons rfl ?_ ?_ | refine .cons ?_ ?_ | refine .row ?_ | refine .rset ?_ | refine .box ?_ | exact .gone | refine .aggL ?_ | refine .tupL ?_ | refine .old rfl ?_ | refine .new rfl rfl rfl ?_ | exact .nl | exact .optr rfl | exact .nptr rfl rfl rfl | refine .t ?_ | exact .any _ | rfl)))
  generalize epM c l = Q at *
  have h0' := Cd.frz1 h0 0 rfl (by repeat' (first | exact FzL.nil | apply FzL.cons | exact FzR.nlt | exact FzR.all (by first | rfl | (simp <;> fail) | (simp; omega)) | exact FzR.sl (by first | exact Nat.le_refl _ | (simp <;> fail) | (simp; omega)) | apply FzR.aggL | exact FzR.same _)) rfl; exact Cd.drop h0' rfl
theorem imailM_c (c : DConf) (hs : c.start.length ≤ 1152921504606846976) (l : List Int) (hU : okU l) : Cd Try.prog 17 [aCf c, .ln (l.map tU)] (.t (.lst ((mailM c l).map tR))) [] := by
 have h1 : (l.map tU).length = l.length := List.length_map _
 have c1 := ifits_c c hs l
 cases hf : fitM c l
 ·rw [hf] at c1
  unfold mailM
  rw [hf, if_neg (by simp)]
  refine Cd.enter' Try.func17 rfl Try.ntmps17 rfl ?_
  repeat' (first | ((with_reducible refine kAL ?_); (first | (refine kL 1 rfl ?_; first | ((first | refine A_as (d := 4) rfl rfl rfl rfl ?_ | refine A_move (d := 4) rfl rfl _ (.inr rfl) (y := .sl _ _ _) rfl ?_ | refine A_move (d := 4) rfl rfl _ (.inr rfl) (y := .nl) rfl ?_ | refine A_move (d := 4) rfl rfl _ (.inr rfl) (y := .ptr _ _) rfl ?_ | refine A_move (d := 4) rfl rfl _ (.inr rfl) (y := .ln _) rfl ?_ | refine A_move (d := 4) rfl rfl _ (.inr rfl) (y := .lp _) rfl ?_ | refine A_move (d := 4) rfl rfl _ (.inr rfl) (y := .fn _ _ _) rfl ?_ | refine A_move (d := 4) rfl rfl _ (.inr rfl) (y := .sub _ _ _ _) rfl ?_ | refine A_move (d := 4) rfl rfl _ (.inr rfl) (y := .rp _ _ _ _) rfl ?_ | refine A_move (d := 4) rfl rfl _ (.inr rfl) (y := .agg _) rfl ?_ | refine A_move (d := 4) rfl rfl _ (.inr rfl) (y := .tup _) rfl ?_); (try refine uz 4 ?_))) | (refine kL 1930 rfl ?_; first | refine uK (c1) ?_) | (refine kL 1135 rfl ?_; first | refine A_lit rfl rfl 35 1 _ rfl ud35 inf71 (.cons rfl .nil) (els := [[_, _, _, _]]) rfl (by first | exact qN) rfl (Nat.ne_of_beq_eq_false rfl) (Nat.le_of_ble_eq_true rfl) (Nat.le_of_ble_eq_true rfl) (.push qL qN) ?_) | (refine kL 12 rfl ?_; first | refine A_append_nlsub rfl rfl _ _ 35 rfl ud35 inf71 rfl rfl rfl rfl (by (try simp only [List.length_map, List.length_append, List.length_cons, List.length_nil]); omega) qB qB List.map_drop.symm (.push qL qN) ?_) | refine uA ?_)) | refine uC ?_ | refine kcp rfl (fun hc => ?_) (fun hc => ?_) | refine kcn rfl (fun hc => ?_) (fun hc => ?_) | refine kcb rfl (fun hc => ?_) (fun hc => ?_) | refine kcc rfl (fun hc => ?_) (fun hc => ?_) | fail)
  all_goals first | (exfalso; omega) | ((first | exact Fin.q Try.results17 (.cons (.tmp rfl) .nil) [] | refine Fin.q Try.results17 (.cons (.tmp rfl) .nil) [] (hr := (.t ?_)) | refine Fin.mkv (rs := _) Try.results17 (.cons (.tmp rfl) .nil) [] (by decide) rfl ?_ ?_ ?_ <;> repeat' (skip; first | exact .nil | refine .cons rfl ?_ ?_ | refine .cons ?_ ?_ | refine .row ?_ | refine .rset ?_ | refine .box ?_ | exact .gone | refine .aggL ?_ | refine .tupL ?_ | refine .old rfl ?_ | refine .new rfl rfl rfl ?_ | exact .nl | exact .optr rfl | exact .nptr rfl rfl rfl | refine .t ?_ | exact .any _ | rfl)))
 ·obtain ⟨T, X, F⟩ := fm_of hf
  have hth := F.th
  have ht0 := F.t0
  have hT : c.threads.toNat = T := by omega
  have hM : mailM c l = (List.range T).map (mailF c l) := by unfold mailM; rw [hf, if_pos rfl, hT]
  have hlen : (mailM c l).length = T := by rw [hM, List.length_map, List.length_range]
  rw [hf] at c1
  have h0 : Cd Try.prog 17 [aCf c, .ln (l.map tU)] (.sl 0 0 (mailM c l).length) [.row 0 71 4 ((mailM c l).map tR)] := by
   rw [hlen, hM]
   refine Cd.enter' Try.func17 rfl Try.ntmps17 rfl ?_
   repeat' (first | ((with_reducible refine kAL ?_); (first | (refine kL 1930 rfl ?_; first | refine uK (c1) ?_) | (refine kL 1135 rfl ?_; first | refine A_lit rfl rfl 35 1 _ rfl ud35 inf71 (.cons rfl .nil) (els := [[_, _, _, _]]) rfl (by first | exact qN) rfl (Nat.ne_of_beq_eq_false rfl) (Nat.le_of_ble_eq_true rfl) (Nat.le_of_ble_eq_true rfl) (.push qL qN) ?_) | (refine kL 12 rfl ?_; first | refine A_append_nlsub rfl rfl _ _ 35 rfl ud35 inf71 rfl rfl rfl rfl (by (try simp only [List.length_map, List.length_append, List.length_cons, List.length_nil]); omega) qB qB List.map_drop.symm (.push qL qN) ?_) | refine uA ?_)) | refine uC ?_ | refine kcp rfl (fun hc => ?_) (fun hc => ?_) | refine kcn rfl (fun hc => ?_) (fun hc => ?_) | refine kcb rfl (fun hc => ?_) (fun hc => ?_) | refine kcc rfl (fun hc => ?_) (fun hc => ?_) | fail)
   all_goals first | (exfalso; omega) | skip
   refine AW.wk (Wk.own 5 rfl 71 4 (.push rfl rfl)) ?_
   refine AW.loopP (fun (k : Nat) => k ≤ T) (fun (k : Nat) => (pu (pu (pu (pu (pu (fun _ => .any) 1 (.ln (l.map tU))) 2 (.ptr 0 0)) 5 (.sl 1 k k)) 12 (i64 c.threads)) 13 (i64 k))) (fun (k : Nat) => [.box 24 [i64 c.kind, i64 c.threads, i64 c.chans, i64 c.cap, i64 c.nodes, i64 c.retire, i64 c.patience, i64 c.tags, i64 c.seqs, i64 c.gens, .ln (c.start.map tI)], .row k 71 4 (((List.range k).map (mailF c l)).map tR)]) (fun (k : Nat) => T - k) (0) ?_ ?_ ?_
   ·exact Nat.zero_le _
   ·exact Wk.cq 2
   ·intro k hk
    by_cases hk2 : k < T
    ·obtain ⟨e1, e2⟩ := F.mail hk2
     have c3 := mailL_c c k
     rw [e1] at c3
     obtain ⟨w1, w2, w3⟩ := u_at hU e2
     have hs2 := rng_map (mailF c l) k
     have hfk : mailF c l k = readR (l.getD (3 + T * 8 + k) 0) := by unfold mailF; rw [hT]
     rw [hfk] at hs2
     have hL : ((List.range k).map (mailF c l)).length = k := by rw [List.length_map, List.length_range]
     generalize (List.range k).map (mailF c l) = Q at *
     generalize l.getD (3 + T * 8 + k) 0 = w at *
     have hL2 : (Q.map tR).length = k := by rw [List.length_map, hL]
     have c4 := pread_c w ⟨w2, w3⟩
     unfold readR at hs2 c4
     dsimp only [aR] at c4
     repeat' (first | ((with_reducible refine kAL ?_); (first | (refine kL 1034 rfl ?_; first | refine uK (c3) ?_) | (refine kL 1706 rfl ?_; first | refine uK (c4) ?_) | (refine kL 1135 rfl ?_; first | refine A_lit rfl rfl 35 1 _ rfl ud35 inf71 (.cons rfl .nil) (els := [[_, _, _, _]]) rfl (by first | exact qN) rfl (Nat.ne_of_beq_eq_false rfl) (Nat.le_of_ble_eq_true rfl) (Nat.le_of_ble_eq_true rfl) (.push qL qN) ?_) | (refine kL 12 rfl ?_; first | refine A_append_nlsub rfl rfl _ _ 35 rfl ud35 inf71 rfl rfl rfl rfl (by (try simp only [List.length_map, List.length_append, List.length_cons, List.length_nil]); omega) qB qB List.map_drop.symm (.push qL qN) ?_) | refine uA ?_)) | refine uC ?_ | refine kcp rfl (fun hc => ?_) (fun hc => ?_) | refine kcn rfl (fun hc => ?_) (fun hc => ?_) | refine kcb rfl (fun hc => ?_) (fun hc => ?_) | refine kcc rfl (fun hc => ?_) (fun hc => ?_) | fail)
     all_goals first | (exfalso; omega) | skip
     refine ⟨k + 1, by omega, by omega, ?_⟩
     rw [hs2]
     exact Wk.cq 2
    ·have e : k = T := by omega
     rw [e]
     repeat' (first | ((with_reducible refine kAL ?_); (first | (refine kL 1135 rfl ?_; first | refine A_lit rfl rfl 35 1 _ rfl ud35 inf71 (.cons rfl .nil) (els := [[_, _, _, _]]) rfl (by first | exact qN) rfl (Nat.ne_of_beq_eq_false rfl) (Nat.le_of_ble_eq_true rfl) (Nat.le_of_ble_eq_true rfl) (.push qL qN) ?_) | (refine kL 12 rfl ?_; first | refine A_append_nlsub rfl rfl _ _ 35 rfl ud35 inf71 rfl rfl rfl rfl (by (try simp only [List.length_map, List.length_append, List.length_cons, List.length_nil]); omega) qB qB List.map_drop.symm (.push qL qN) ?_) | refine uA ?_)) | refine uC ?_ | refine kcp rfl (fun hc => ?_) (fun hc => ?_) | refine kcn rfl (fun hc => ?_) (fun hc => ?_) | refine kcb rfl (fun hc => ?_) (fun hc => ?_) | refine kcc rfl (fun hc => ?_) (fun hc => ?_) | fail)
     all_goals first | (exfalso; omega) | ((first | exact Fin.q Try.results17 (.cons (.tmp rfl) .nil) [1] | refine Fin.q Try.results17 (.cons (.tmp rfl) .nil) [1] (hr := (.t ?_)) | refine Fin.mkv (rs := _) Try.results17 (.cons (.tmp rfl) .nil) [1] (by decide) rfl ?_ ?_ ?_ <;> repeat' (skip; first | exact .nil | refine .cons rfl ?_ ?_ | refine .cons ?_ ?_ | refine .row ?_ | refine .rset ?_ | refine .box ?_ | exact .gone | refine .aggL ?_ | refine .tupL ?_ | refine .old rfl ?_ | refine .new rfl rfl rfl ?_ | exact .nl | exact .optr rfl | exact .nptr rfl rfl rfl | refine .t ?_ | exact .any _ | rfl)))
  generalize mailM c l = Q at *
  have h0' := Cd.frz1 h0 0 rfl (by repeat' (first | exact FzL.nil | apply FzL.cons | exact FzR.nlt | exact FzR.all (by first | rfl | (simp <;> fail) | (simp; omega)) | exact FzR.sl (by first | exact Nat.le_refl _ | (simp <;> fail) | (simp; omega)) | apply FzR.aggL | exact FzR.same _)) rfl; exact Cd.drop h0' rfl
theorem rmailM_c (c : DConf) (hs : c.start.length ≤ 1152921504606846976) (l : List Int) (hU : okU l) : Cd Try.prog 18 [aCf c, .ln (l.map tU)] (.t (.lst ((mailM c l).map tR))) [] := by
 have h1 : (l.map tU).length = l.length := List.length_map _
 have c1 := rfits_c c hs l
 cases hf : fitM c l
 ·rw [hf] at c1
  unfold mailM
  rw [hf, if_neg (by simp)]
  refine Cd.enter' Try.func18 rfl Try.ntmps18 rfl ?_
  repeat' (first | ((with_reducible refine kAL ?_); (first | (refine kL 1994 rfl ?_; first | refine uK (c1) ?_) | (refine kL 1135 rfl ?_; first | refine A_lit rfl rfl 35 1 _ rfl ud35 inf71 (.cons rfl .nil) (els := [[_, _, _, _]]) rfl (by first | exact qN) rfl (Nat.ne_of_beq_eq_false rfl) (Nat.le_of_ble_eq_true rfl) (Nat.le_of_ble_eq_true rfl) (.push qL qN) ?_) | (refine kL 12 rfl ?_; first | refine A_append_nlsub rfl rfl _ _ 35 rfl ud35 inf71 rfl rfl rfl rfl (by (try simp only [List.length_map, List.length_append, List.length_cons, List.length_nil]); omega) qB qB List.map_drop.symm (.push qL qN) ?_) | refine uA ?_ | refine uS 10 (fun hb => ?_) (fun hb => ?_))) | refine uC ?_ | refine kcp rfl (fun hc => ?_) (fun hc => ?_) | refine kcn rfl (fun hc => ?_) (fun hc => ?_) | refine kcb rfl (fun hc => ?_) (fun hc => ?_) | refine kcc rfl (fun hc => ?_) (fun hc => ?_) | fail)
  all_goals first | (exfalso; omega) | skip
  refine AW.loopP (fun (k : Nat) => True) (fun (k : Nat) => (pu (pu (pu (pu (fun _ => .any) 1 (.ln (l.map tU))) 2 (.ptr 0 0)) 5 (.nl)) 6 (i64 0))) (fun (k : Nat) => [.box 24 [i64 c.kind, i64 c.threads, i64 c.chans, i64 c.cap, i64 c.nodes, i64 c.retire, i64 c.patience, i64 c.tags, i64 c.seqs, i64 c.gens, .ln (c.start.map tI)]]) (fun (k : Nat) => 0) (0) ?_ ?_ ?_
  ·trivial
  ·exact Wk.cq 1
  intro k _
  repeat' (first | ((with_reducible refine kAL ?_); (first | (refine kL 1 rfl ?_; first | ((first | refine A_as (d := 4) rfl rfl rfl rfl ?_ | refine A_move (d := 4) rfl rfl _ (.inr rfl) (y := .sl _ _ _) rfl ?_ | refine A_move (d := 4) rfl rfl _ (.inr rfl) (y := .nl) rfl ?_ | refine A_move (d := 4) rfl rfl _ (.inr rfl) (y := .ptr _ _) rfl ?_ | refine A_move (d := 4) rfl rfl _ (.inr rfl) (y := .ln _) rfl ?_ | refine A_move (d := 4) rfl rfl _ (.inr rfl) (y := .lp _) rfl ?_ | refine A_move (d := 4) rfl rfl _ (.inr rfl) (y := .fn _ _ _) rfl ?_ | refine A_move (d := 4) rfl rfl _ (.inr rfl) (y := .sub _ _ _ _) rfl ?_ | refine A_move (d := 4) rfl rfl _ (.inr rfl) (y := .rp _ _ _ _) rfl ?_ | refine A_move (d := 4) rfl rfl _ (.inr rfl) (y := .agg _) rfl ?_ | refine A_move (d := 4) rfl rfl _ (.inr rfl) (y := .tup _) rfl ?_); (try refine uz 4 ?_))) | (refine kL 1994 rfl ?_; first | refine uK (c1) ?_) | (refine kL 1135 rfl ?_; first | refine A_lit rfl rfl 35 1 _ rfl ud35 inf71 (.cons rfl .nil) (els := [[_, _, _, _]]) rfl (by first | exact qN) rfl (Nat.ne_of_beq_eq_false rfl) (Nat.le_of_ble_eq_true rfl) (Nat.le_of_ble_eq_true rfl) (.push qL qN) ?_) | (refine kL 12 rfl ?_; first | refine A_append_nlsub rfl rfl _ _ 35 rfl ud35 inf71 rfl rfl rfl rfl (by (try simp only [List.length_map, List.length_append, List.length_cons, List.length_nil]); omega) qB qB List.map_drop.symm (.push qL qN) ?_) | refine uA ?_ | refine uS 10 (fun hb => ?_) (fun hb => ?_))) | refine uC ?_ | refine kcp rfl (fun hc => ?_) (fun hc => ?_) | refine kcn rfl (fun hc => ?_) (fun hc => ?_) | refine kcb rfl (fun hc => ?_) (fun hc => ?_) | refine kcc rfl (fun hc => ?_) (fun hc => ?_) | fail)
  all_goals first | (exfalso; omega) | ((first | exact Fin.q Try.results18 (.cons (.tmp rfl) .nil) [] | refine Fin.q Try.results18 (.cons (.tmp rfl) .nil) [] (hr := (.t ?_)) | refine Fin.mkv (rs := _) Try.results18 (.cons (.tmp rfl) .nil) [] (by decide) rfl ?_ ?_ ?_ <;> repeat' (skip; first | exact .nil | refine .cons rfl ?_ ?_ | refine .cons ?_ ?_ | refine .row ?_ | refine .rset ?_ | refine .box ?_ | exact .gone | refine .aggL ?_ | refine .tupL ?_ | refine .old rfl ?_ | refine .new rfl rfl rfl ?_ | exact .nl | exact .optr rfl | exact .nptr rfl rfl rfl | refine .t ?_ | exact .any _ | rfl)))
 ·obtain ⟨T, X, F⟩ := fm_of hf
  have hth := F.th
  have ht0 := F.t0
  have hT : c.threads.toNat = T := by omega
  have hM : mailM c l = (List.range T).map (mailF c l) := by unfold mailM; rw [hf, if_pos rfl, hT]
  have hlen : (mailM c l).length = T := by rw [hM, List.length_map, List.length_range]
  rw [hf] at c1
  have h0 : Cd Try.prog 18 [aCf c, .ln (l.map tU)] (.sl 0 0 (mailM c l).length) [.row 0 71 4 ((mailM c l).map tR)] := by
   rw [hlen, hM]
   refine Cd.enter' Try.func18 rfl Try.ntmps18 rfl ?_
   repeat' (first | ((with_reducible refine kAL ?_); (first | (refine kL 1994 rfl ?_; first | refine uK (c1) ?_) | (refine kL 1135 rfl ?_; first | refine A_lit rfl rfl 35 1 _ rfl ud35 inf71 (.cons rfl .nil) (els := [[_, _, _, _]]) rfl (by first | exact qN) rfl (Nat.ne_of_beq_eq_false rfl) (Nat.le_of_ble_eq_true rfl) (Nat.le_of_ble_eq_true rfl) (.push qL qN) ?_) | (refine kL 12 rfl ?_; first | refine A_append_nlsub rfl rfl _ _ 35 rfl ud35 inf71 rfl rfl rfl rfl (by (try simp only [List.length_map, List.length_append, List.length_cons, List.length_nil]); omega) qB qB List.map_drop.symm (.push qL qN) ?_) | refine uA ?_ | refine uS 10 (fun hb => ?_) (fun hb => ?_))) | refine uC ?_ | refine kcp rfl (fun hc => ?_) (fun hc => ?_) | refine kcn rfl (fun hc => ?_) (fun hc => ?_) | refine kcb rfl (fun hc => ?_) (fun hc => ?_) | refine kcc rfl (fun hc => ?_) (fun hc => ?_) | fail)
   all_goals first | (exfalso; omega) | skip
   refine AW.wk (Wk.own 5 rfl 71 4 (.push rfl rfl)) ?_
   refine AW.loopP (fun (k : Nat) => k ≤ T) (fun (k : Nat) => (pu (pu (pu (pu (fun _ => .any) 1 (.ln (l.map tU))) 2 (.ptr 0 0)) 5 (.sl 1 k k)) 6 (i64 k))) (fun (k : Nat) => [.box 24 [i64 c.kind, i64 c.threads, i64 c.chans, i64 c.cap, i64 c.nodes, i64 c.retire, i64 c.patience, i64 c.tags, i64 c.seqs, i64 c.gens, .ln (c.start.map tI)], .row k 71 4 (((List.range k).map (mailF c l)).map tR)]) (fun (k : Nat) => T - k) (0) ?_ ?_ ?_
   ·exact Nat.zero_le _
   ·exact Wk.cq 2
   ·intro k hk
    by_cases hk2 : k < T
    ·obtain ⟨e1, e2⟩ := F.mail hk2
     have c3 := rmailL_c c k
     rw [e1] at c3
     obtain ⟨w1, w2, w3⟩ := u_at hU e2
     have hs2 := rng_map (mailF c l) k
     have hfk : mailF c l k = readR (l.getD (3 + T * 8 + k) 0) := by unfold mailF; rw [hT]
     rw [hfk] at hs2
     have hL : ((List.range k).map (mailF c l)).length = k := by rw [List.length_map, List.length_range]
     generalize (List.range k).map (mailF c l) = Q at *
     generalize l.getD (3 + T * 8 + k) 0 = w at *
     have hL2 : (Q.map tR).length = k := by rw [List.length_map, hL]
     have c4 := rread_c w ⟨w2, w3⟩
     unfold readR at hs2 c4
     dsimp only [aR] at c4
     repeat' (first | ((with_reducible refine kAL ?_); (first | (refine kL 1994 rfl ?_; first | refine uK (c1) ?_) | (refine kL 1066 rfl ?_; first | refine uK (c3) ?_) | (refine kL 1866 rfl ?_; first | refine uK (c4) ?_) | (refine kL 1135 rfl ?_; first | refine A_lit rfl rfl 35 1 _ rfl ud35 inf71 (.cons rfl .nil) (els := [[_, _, _, _]]) rfl (by first | exact qN) rfl (Nat.ne_of_beq_eq_false rfl) (Nat.le_of_ble_eq_true rfl) (Nat.le_of_ble_eq_true rfl) (.push qL qN) ?_) | (refine kL 12 rfl ?_; first | refine A_append_nlsub rfl rfl _ _ 35 rfl ud35 inf71 rfl rfl rfl rfl (by (try simp only [List.length_map, List.length_append, List.length_cons, List.length_nil]); omega) qB qB List.map_drop.symm (.push qL qN) ?_) | refine uA ?_ | refine uS 10 (fun hb => ?_) (fun hb => ?_))) | refine uC ?_ | refine kcp rfl (fun hc => ?_) (fun hc => ?_) | refine kcn rfl (fun hc => ?_) (fun hc => ?_) | refine kcb rfl (fun hc => ?_) (fun hc => ?_) | refine kcc rfl (fun hc => ?_) (fun hc => ?_) | fail)
     all_goals first | (exfalso; omega) | skip
     refine ⟨k + 1, by omega, by omega, ?_⟩
     rw [hs2]
     exact Wk.cq 2
    ·have e : k = T := by omega
     rw [e]
     repeat' (first | ((with_reducible refine kAL ?_); (first | (refine kL 1994 rfl ?_; first | refine uK (c1) ?_) | (refine kL 1135 rfl ?_; first | refine A_lit rfl rfl 35 1 _ rfl ud35 inf71 (.cons rfl .nil) (els := [[_, _, _, _]]) rfl (by first | exact qN) rfl (Nat.ne_of_beq_eq_false rfl) (Nat.le_of_ble_eq_true rfl) (Nat.le_of_ble_eq_true rfl) (.push qL qN) ?_) | (refine kL 12 rfl ?_; first | refine A_append_nlsub rfl rfl _ _ 35 rfl ud35 inf71 rfl rfl rfl rfl (by (try simp only [List.length_map, List.length_append, List.length_cons, List.length_nil]); omega) qB qB List.map_drop.symm (.push qL qN) ?_) | refine uA ?_ | refine uS 10 (fun hb => ?_) (fun hb => ?_))) | refine uC ?_ | refine kcp rfl (fun hc => ?_) (fun hc => ?_) | refine kcn rfl (fun hc => ?_) (fun hc => ?_) | refine kcb rfl (fun hc => ?_) (fun hc => ?_) | refine kcc rfl (fun hc => ?_) (fun hc => ?_) | fail)
     all_goals first | (exfalso; omega) | ((first | exact Fin.q Try.results18 (.cons (.tmp rfl) .nil) [1] | refine Fin.q Try.results18 (.cons (.tmp rfl) .nil) [1] (hr := (.t ?_)) | refine Fin.mkv (rs := _) Try.results18 (.cons (.tmp rfl) .nil) [1] (by decide) rfl ?_ ?_ ?_ <;> repeat' (skip; first | exact .nil | refine .cons rfl ?_ ?_ | refine .cons ?_ ?_ | refine .row ?_ | refine .rset ?_ | refine .box ?_ | exact .gone | refine .aggL ?_ | refine .tupL ?_ | refine .old rfl ?_ | refine .new rfl rfl rfl ?_ | exact .nl | exact .optr rfl | exact .nptr rfl rfl rfl | refine .t ?_ | exact .any _ | rfl)))
  generalize mailM c l = Q at *
  have h0' := Cd.frz1 h0 0 rfl (by repeat' (first | exact FzL.nil | apply FzL.cons | exact FzR.nlt | exact FzR.all (by first | rfl | (simp <;> fail) | (simp; omega)) | exact FzR.sl (by first | exact Nat.le_refl _ | (simp <;> fail) | (simp; omega)) | apply FzR.aggL | exact FzR.same _)) rfl; exact Cd.drop h0' rfl
structure iusedMS where
 k : Nat
 v : Nat
 n : Nat
theorem iusedM_c (c : DConf) (hs : c.start.length ≤ 1152921504606846976) (l : List Int) (hU : okU l) : Cd Try.prog 68 [aCf c, .ln (l.map tU)] (.t (.lst ((usedM c l).map tI))) [] := by
 have h1 : (l.map tU).length = l.length := List.length_map _
 have c1 := ifits_c c hs l
 cases hf : fitM c l
 ·rw [hf] at c1
  unfold usedM
  rw [hf, if_neg (by simp)]
  refine Cd.enter' Try.func68 rfl Try.ntmps68 rfl ?_
  repeat' (first | ((with_reducible refine kAL ?_); (first | (refine kL 1 rfl ?_; first | ((first | refine A_as (d := 4) rfl rfl rfl rfl ?_ | refine A_move (d := 4) rfl rfl _ (.inr rfl) (y := .sl _ _ _) rfl ?_ | refine A_move (d := 4) rfl rfl _ (.inr rfl) (y := .nl) rfl ?_ | refine A_move (d := 4) rfl rfl _ (.inr rfl) (y := .ptr _ _) rfl ?_ | refine A_move (d := 4) rfl rfl _ (.inr rfl) (y := .ln _) rfl ?_ | refine A_move (d := 4) rfl rfl _ (.inr rfl) (y := .lp _) rfl ?_ | refine A_move (d := 4) rfl rfl _ (.inr rfl) (y := .fn _ _ _) rfl ?_ | refine A_move (d := 4) rfl rfl _ (.inr rfl) (y := .sub _ _ _ _) rfl ?_ | refine A_move (d := 4) rfl rfl _ (.inr rfl) (y := .rp _ _ _ _) rfl ?_ | refine A_move (d := 4) rfl rfl _ (.inr rfl) (y := .agg _) rfl ?_ | refine A_move (d := 4) rfl rfl _ (.inr rfl) (y := .tup _) rfl ?_); (try refine uz 4 ?_))) | (refine kL 1930 rfl ?_; first | refine uK (c1) ?_) | (refine kL 719 rfl ?_; first | refine A_lit rfl rfl 22 1 _ rfl ud22 inf3 (.cons rfl .nil) (els := [[_]]) rfl (by first | exact qN) rfl (Nat.ne_of_beq_eq_false rfl) (Nat.le_of_ble_eq_true rfl) (Nat.le_of_ble_eq_true rfl) (.push qL qN) ?_) | (refine kL 12 rfl ?_; first | refine A_append_nlsub rfl rfl _ _ 22 rfl ud22 inf3 rfl rfl rfl rfl (by (try simp only [List.length_map, List.length_append, List.length_cons, List.length_nil]); omega) qB qB List.map_drop.symm (.push qL qN) ?_) | refine uA ?_)) | refine uC ?_ | refine kcp rfl (fun hc => ?_) (fun hc => ?_) | refine kcn rfl (fun hc => ?_) (fun hc => ?_) | refine kcb rfl (fun hc => ?_) (fun hc => ?_) | refine kcc rfl (fun hc => ?_) (fun hc => ?_) | fail)
  all_goals first | (exfalso; omega) | ((first | exact Fin.q Try.results68 (.cons (.tmp rfl) .nil) [] | refine Fin.q Try.results68 (.cons (.tmp rfl) .nil) [] (hr := (.t ?_)) | refine Fin.mkv (rs := _) Try.results68 (.cons (.tmp rfl) .nil) [] (by decide) rfl ?_ ?_ ?_ <;> repeat' (skip; first | exact .nil | refine .cons rfl ?_ ?_ | refine .cons ?_ ?_ | refine .row ?_ | refine .rset ?_ | refine .box ?_ | exact .gone | refine .aggL ?_ | refine .tupL ?_ | refine .old rfl ?_ | refine .new rfl rfl rfl ?_ | exact .nl | exact .optr rfl | exact .nptr rfl rfl rfl | refine .t ?_ | exact .any _ | rfl)))
 ·obtain ⟨T, X, F⟩ := fm_of hf
  have hnn := F.n
  obtain ⟨N, hN⟩ : ∃ N : Nat, nodesL c = (N : Int) := ⟨(nodesL c).toNat, by omega⟩
  have c2 := nodesL_c c hs
  rw [hN] at c2
  rw [hf] at c1
  have hM : usedM c l = ((List.range N).filter (usedB c l)).map natI := by unfold usedM; rw [hf, if_pos rfl, hN, Int.toNat_natCast]
  replace hnn : 1 ≤ N ∧ N ≤ 4097 := by omega
  have h0 : Cd Try.prog 68 [aCf c, .ln (l.map tU)] (.sl 0 0 (usedM c l).length) [.row 0 3 1 ((usedM c l).map tI)] := by
   rw [hM]
   refine Cd.enter' Try.func68 rfl Try.ntmps68 rfl ?_
   repeat' (first | ((with_reducible refine kAL ?_); (first | (refine kL 1930 rfl ?_; first | refine uK (c1) ?_) | (refine kL 1098 rfl ?_; first | refine uK (c2) ?_) | (refine kL 719 rfl ?_; first | refine A_lit rfl rfl 22 1 _ rfl ud22 inf3 (.cons rfl .nil) (els := [[_]]) rfl (by first | exact qN) rfl (Nat.ne_of_beq_eq_false rfl) (Nat.le_of_ble_eq_true rfl) (Nat.le_of_ble_eq_true rfl) (.push qL qN) ?_) | (refine kL 12 rfl ?_; first | refine A_append_nlsub rfl rfl _ _ 22 rfl ud22 inf3 rfl rfl rfl rfl (by (try simp only [List.length_map, List.length_append, List.length_cons, List.length_nil]); omega) qB qB List.map_drop.symm (.push qL qN) ?_) | refine uA ?_)) | refine uC ?_ | refine kcp rfl (fun hc => ?_) (fun hc => ?_) | refine kcn rfl (fun hc => ?_) (fun hc => ?_) | refine kcb rfl (fun hc => ?_) (fun hc => ?_) | refine kcc rfl (fun hc => ?_) (fun hc => ?_) | fail)
   all_goals first | (exfalso; omega) | skip
   refine AW.wk (Wk.own 5 rfl 3 1 (.push rfl rfl)) ?_
   refine AW.loopP (fun (x : iusedMS) => x.k ≤ N ∧ x.n = (((List.range x.k).filter (usedB c l)).map (natI)).length) (fun (x : iusedMS) => (pu (pu (pu (pu (pu (fun _ => .any) 1 (.ln (l.map tU))) 2 (.ptr 0 0)) 5 (.sl 1 x.v x.n)) 12 (i64 (N : Int))) 13 (i64 x.k))) (fun (x : iusedMS) => [.box 24 [i64 c.kind, i64 c.threads, i64 c.chans, i64 c.cap, i64 c.nodes, i64 c.retire, i64 c.patience, i64 c.tags, i64 c.seqs, i64 c.gens, .ln (c.start.map tI)], .row x.v 3 1 ((((List.range x.k).filter (usedB c l)).map (natI)).map tI)]) (fun (x : iusedMS) => N - x.k) (⟨0, 0, 0⟩) ?_ ?_ ?_
   ·exact ⟨Nat.zero_le _, rfl⟩
   ·exact Wk.cq 2
   ·rintro ⟨k, v, n⟩ ⟨hk, hn⟩
    dsimp only at hk hn ⊢
    have hnk := rng_len (usedB c l) (natI) k
    by_cases hk2 : k < N
    ·have y1 := rng_yes (usedB c l) (natI) k
     have y0 := rng_no (usedB c l) (natI) k
     obtain ⟨n1, m1, e1, e2, e3, e4, e5⟩ := F.next (i := (k : Int)) (by omega) (by omega)
     have c3 := nodeL_c c hs k
     rw [e1] at c3
     obtain ⟨w1, w2, w3⟩ := u_at hU (n := n1) (by omega)
     have hB : usedB c l k = decide (l.getD n1 0 ≠ 0) := by unfold usedB; rw [e1, Int.toNat_natCast]
     generalize l.getD n1 0 = w at *
     generalize ((List.range k).filter (usedB c l)).map (natI) = Q at *
     have hL2 : (Q.map tI).length = n := by rw [List.length_map, hn]
     cases hb2 : usedB c l k
     ·have hs2 := y0 hb2
      rw [hb2] at hB
      have hB := Decidable.not_not.1 (of_decide_eq_false hB.symm)
      repeat' (first | ((with_reducible refine kAL ?_); (first | (refine kL 1162 rfl ?_; first | refine uK (c3) ?_) | (refine kL 719 rfl ?_; first | refine A_lit rfl rfl 22 1 _ rfl ud22 inf3 (.cons rfl .nil) (els := [[_]]) rfl (by first | exact qN) rfl (Nat.ne_of_beq_eq_false rfl) (Nat.le_of_ble_eq_true rfl) (Nat.le_of_ble_eq_true rfl) (.push qL qN) ?_) | (refine kL 12 rfl ?_; first | refine A_append_nlsub rfl rfl _ _ 22 rfl ud22 inf3 rfl rfl rfl rfl (by (try simp only [List.length_map, List.length_append, List.length_cons, List.length_nil]); omega) qB qB List.map_drop.symm (.push qL qN) ?_) | refine uA ?_)) | refine uC ?_ | refine kcp rfl (fun hc => ?_) (fun hc => ?_) | refine kcn rfl (fun hc => ?_) (fun hc => ?_) | refine kcb rfl (fun hc => ?_) (fun hc => ?_) | refine kcc rfl (fun hc => ?_) (fun hc => ?_) | fail)
      all_goals first | (exfalso; omega) | skip
      refine ⟨⟨k + 1, v, n⟩, ⟨by dsimp only; omega, by dsimp only; rw [hs2, hn]⟩, by dsimp only; omega, ?_⟩
      dsimp only
      rw [hs2]
      exact Wk.cq 2
     ·have hs2 := y1 hb2
      rw [hb2] at hB
      have hB := of_decide_eq_true hB.symm
      dsimp only [natI] at hs2
      repeat' (first | ((with_reducible refine kAL ?_); (first | (refine kL 1162 rfl ?_; first | refine uK (c3) ?_) | (refine kL 719 rfl ?_; first | refine A_lit rfl rfl 22 1 _ rfl ud22 inf3 (.cons rfl .nil) (els := [[_]]) rfl (by first | exact (rfl : _ = List.map tI [_]) | exact qN) rfl (Nat.ne_of_beq_eq_false rfl) (Nat.le_of_ble_eq_true rfl) (Nat.le_of_ble_eq_true rfl) (.push qL qN) ?_) | (refine kL 12 rfl ?_; first | refine A_append_nlsub rfl rfl _ _ 22 rfl ud22 inf3 rfl rfl rfl rfl (by (try simp only [List.length_map, List.length_append, List.length_cons, List.length_nil]); omega) qB qB List.map_drop.symm (.push qL qN) ?_) | refine uA ?_)) | refine uC ?_ | refine kcp rfl (fun hc => ?_) (fun hc => ?_) | refine kcn rfl (fun hc => ?_) (fun hc => ?_) | refine kcb rfl (fun hc => ?_) (fun hc => ?_) | refine kcc rfl (fun hc => ?_) (fun hc => ?_) | fail)
      all_goals first | (exfalso; omega) | skip
      refine ⟨⟨k + 1, v + 1, n + 1⟩, ⟨by dsimp only; omega, by dsimp only; rw [hs2, List.length_append, hn]; rfl⟩, by dsimp only; omega, ?_⟩
      dsimp only
      rw [hs2]
      exact Wk.cq 2
    ·have e : k = N := by omega
     rw [e] at hn ⊢
     rw [← hn]
     repeat' (first | ((with_reducible refine kAL ?_); (first | (refine kL 719 rfl ?_; first | refine A_lit rfl rfl 22 1 _ rfl ud22 inf3 (.cons rfl .nil) (els := [[_]]) rfl (by first | exact qN) rfl (Nat.ne_of_beq_eq_false rfl) (Nat.le_of_ble_eq_true rfl) (Nat.le_of_ble_eq_true rfl) (.push qL qN) ?_) | (refine kL 12 rfl ?_; first | refine A_append_nlsub rfl rfl _ _ 22 rfl ud22 inf3 rfl rfl rfl rfl (by (try simp only [List.length_map, List.length_append, List.length_cons, List.length_nil]); omega) qB qB List.map_drop.symm (.push qL qN) ?_) | refine uA ?_)) | refine uC ?_ | refine kcp rfl (fun hc => ?_) (fun hc => ?_) | refine kcn rfl (fun hc => ?_) (fun hc => ?_) | refine kcb rfl (fun hc => ?_) (fun hc => ?_) | refine kcc rfl (fun hc => ?_) (fun hc => ?_) | fail)
     all_goals first | (exfalso; omega) | ((first | exact Fin.q Try.results68 (.cons (.tmp rfl) .nil) [1] | refine Fin.q Try.results68 (.cons (.tmp rfl) .nil) [1] (hr := (.t ?_)) | refine Fin.mkv (rs := _) Try.results68 (.cons (.tmp rfl) .nil) [1] (by decide) rfl ?_ ?_ ?_ <;> repeat' (skip; first | exact .nil | refine .cons rfl ?_ ?_ | refine .cons ?_ ?_ | refine .row ?_ | refine .rset ?_ | refine .box ?_ | exact .gone | refine .aggL ?_ | refine .tupL ?_ | refine .old rfl ?_ | refine .new rfl rfl rfl ?_ | exact .nl | exact .optr rfl | exact .nptr rfl rfl rfl | refine .t ?_ | exact .any _ | rfl)))
  generalize usedM c l = Q at *
  have h0' := Cd.frz1 h0 0 rfl (by repeat' (first | exact FzL.nil | apply FzL.cons | exact FzR.nlt | exact FzR.all (by first | rfl | (simp <;> fail) | (simp; omega)) | exact FzR.sl (by first | exact Nat.le_refl _ | (simp <;> fail) | (simp; omega)) | apply FzR.aggL | exact FzR.same _)) rfl; exact Cd.drop h0' rfl
structure ilateMS where
 k : Nat
 v : Nat
 n : Nat
theorem ilateM_c (c : DConf) (hs : c.start.length ≤ 1152921504606846976) (l : List Int) (hU : okU l) : Cd Try.prog 19 [aCf c, .ln (l.map tU)] (.t (.lst ((lateM c l).map tI))) [] := by
 have h1 : (l.map tU).length = l.length := List.length_map _
 obtain ⟨rk1, rk2⟩ := rootR_ok (c := c) hU
 have c1 := iroot_c c hs l hU
 cases hf : rOkM c l
 ·rw [hf] at c1
  unfold lateM
  rw [hf, if_neg (by simp)]
  generalize rootR c l = rc at *
  refine Cd.enter' Try.func19 rfl Try.ntmps19 rfl ?_
  repeat' (first | ((with_reducible refine kAL ?_); (first | (refine kL 1 rfl ?_; first | ((first | refine A_as (d := 4) rfl rfl rfl rfl ?_ | refine A_move (d := 4) rfl rfl _ (.inr rfl) (y := .sl _ _ _) rfl ?_ | refine A_move (d := 4) rfl rfl _ (.inr rfl) (y := .nl) rfl ?_ | refine A_move (d := 4) rfl rfl _ (.inr rfl) (y := .ptr _ _) rfl ?_ | refine A_move (d := 4) rfl rfl _ (.inr rfl) (y := .ln _) rfl ?_ | refine A_move (d := 4) rfl rfl _ (.inr rfl) (y := .lp _) rfl ?_ | refine A_move (d := 4) rfl rfl _ (.inr rfl) (y := .fn _ _ _) rfl ?_ | refine A_move (d := 4) rfl rfl _ (.inr rfl) (y := .sub _ _ _ _) rfl ?_ | refine A_move (d := 4) rfl rfl _ (.inr rfl) (y := .rp _ _ _ _) rfl ?_ | refine A_move (d := 4) rfl rfl _ (.inr rfl) (y := .agg _) rfl ?_ | refine A_move (d := 4) rfl rfl _ (.inr rfl) (y := .tup _) rfl ?_); (try refine uz 4 ?_))) | (refine kL 1674 rfl ?_; first | refine uK (c1) ?_) | (refine kL 719 rfl ?_; first | refine A_lit rfl rfl 22 1 _ rfl ud22 inf3 (.cons rfl .nil) (els := [[_]]) rfl (by first | exact qN) rfl (Nat.ne_of_beq_eq_false rfl) (Nat.le_of_ble_eq_true rfl) (Nat.le_of_ble_eq_true rfl) (.push qL qN) ?_) | (refine kL 12 rfl ?_; first | refine A_append_nlsub rfl rfl _ _ 22 rfl ud22 inf3 rfl rfl rfl rfl (by (try simp only [List.length_map, List.length_append, List.length_cons, List.length_nil]); omega) qB qB List.map_drop.symm (.push qL qN) ?_) | refine uA ?_)) | refine uR ?_ | refine uC ?_ | refine kcp rfl (fun hc => ?_) (fun hc => ?_) | refine kcn rfl (fun hc => ?_) (fun hc => ?_) | refine kcb rfl (fun hc => ?_) (fun hc => ?_) | refine kcc rfl (fun hc => ?_) (fun hc => ?_) | refine AW.drawU (id := 8) mixed 6 qR ?_ | fail)
  all_goals first | (exfalso; omega) | ((first | exact Fin.q Try.results19 (.cons (.tmp rfl) .nil) [] | refine Fin.q Try.results19 (.cons (.tmp rfl) .nil) [] (hr := (.t ?_)) | refine Fin.mkv (rs := _) Try.results19 (.cons (.tmp rfl) .nil) [] (by decide) rfl ?_ ?_ ?_ <;> repeat' (skip; first | exact .nil | refine .cons rfl ?_ ?_ | refine .cons ?_ ?_ | refine .row ?_ | refine .rset ?_ | refine .box ?_ | exact .gone | refine .aggL ?_ | refine .tupL ?_ | refine .old rfl ?_ | refine .new rfl rfl rfl ?_ | exact .nl | exact .optr rfl | exact .nptr rfl rfl rfl | refine .t ?_ | exact .any _ | rfl)))
 ·have hff : fitM c l = true := by cases g : fitM c l; rw [fm_no g] at hf; cases hf; rfl
  obtain ⟨T, X, F⟩ := fm_of hff
  have hth := F.th
  have ht0 := F.t0
  have htop := F.top
  have hT : c.threads.toNat = T := by omega
  have hM : lateM c l = ((List.range T).filter (lateB c l)).map (natI) := by unfold lateM; rw [hf, if_pos rfl, hT]
  rw [hf] at c1
  have h0 : Cd Try.prog 19 [aCf c, .ln (l.map tU)] (.sl 0 0 (lateM c l).length) [.row 0 3 1 ((lateM c l).map tI)] := by
   rw [hM]
   refine Cd.enter' Try.func19 rfl Try.ntmps19 rfl ?_
   repeat' (first | ((with_reducible refine kAL ?_); (first | (refine kL 1674 rfl ?_; first | refine uK (c1) ?_) | (refine kL 719 rfl ?_; first | refine A_lit rfl rfl 22 1 _ rfl ud22 inf3 (.cons rfl .nil) (els := [[_]]) rfl (by first | exact qN) rfl (Nat.ne_of_beq_eq_false rfl) (Nat.le_of_ble_eq_true rfl) (Nat.le_of_ble_eq_true rfl) (.push qL qN) ?_) | (refine kL 12 rfl ?_; first | refine A_append_nlsub rfl rfl _ _ 22 rfl ud22 inf3 rfl rfl rfl rfl (by (try simp only [List.length_map, List.length_append, List.length_cons, List.length_nil]); omega) qB qB List.map_drop.symm (.push qL qN) ?_) | refine uA ?_)) | refine uR ?_ | refine uC ?_ | refine kcp rfl (fun hc => ?_) (fun hc => ?_) | refine kcn rfl (fun hc => ?_) (fun hc => ?_) | refine kcb rfl (fun hc => ?_) (fun hc => ?_) | refine kcc rfl (fun hc => ?_) (fun hc => ?_) | refine AW.drawU (id := 8) mixed 6 qR ?_ | fail)
   all_goals first | (exfalso; omega) | skip
   refine AW.wk (Wk.own 8 rfl 3 1 (.push rfl rfl)) ?_
   refine AW.loopP (fun (x : ilateMS) => x.k ≤ T ∧ x.n = (((List.range x.k).filter (lateB c l)).map (natI)).length) (fun (x : ilateMS) => (pu (pu (pu (pu (pu (pu (pu (fun _ => .any) 1 (.ln (l.map tU))) 2 (.ptr 0 0)) 5 (.ptr 1 0)) 6 (fU (rootR c l))) 8 (.sl 2 x.v x.n)) 20 (i64 c.threads)) 21 (i64 x.k))) (fun (x : ilateMS) => [.box 24 [i64 c.kind, i64 c.threads, i64 c.chans, i64 c.cap, i64 c.nodes, i64 c.retire, i64 c.patience, i64 c.tags, i64 c.seqs, i64 c.gens, .ln (c.start.map tI)], .box 55 [i64 (rootI c l), i64 (rootT c l)], .row x.v 3 1 ((((List.range x.k).filter (lateB c l)).map (natI)).map tI)]) (fun (x : ilateMS) => T - x.k) (⟨0, 0, 0⟩) ?_ ?_ ?_
   ·exact ⟨Nat.zero_le _, rfl⟩
   ·exact Wk.cq 3
   ·rintro ⟨k, v, n⟩ ⟨hk, hn⟩
    dsimp only at hk hn ⊢
    have hnk := rng_len (lateB c l) (natI) k
    by_cases hk2 : k < T
    ·have y1 := rng_yes (lateB c l) (natI) k
     have y0 := rng_no (lateB c l) (natI) k
     obtain ⟨e1, e2⟩ := F.mail hk2
     have c3 := mailL_c c k
     rw [e1] at c3
     obtain ⟨w1, w2, w3⟩ := u_at hU e2
     have c4 := done1_o c hs (rootR c l) k (by omega)
     have db := doneL_b (c := c) rk1 k
     have c5 := pbehind_c (l.getD (3 + T * 8 + k) 0) (doneL c (rootR c l) k) ⟨w2, w3⟩ db
     have hB : lateB c l k = decide (rankR (readR (l.getD (3 + T * 8 + k) 0)) < rankR (readR (doneL c (rootR c l) k))) := by unfold lateB; rw [hT]
     rw [← hB] at c5
     generalize l.getD (3 + T * 8 + k) 0 = w at *
     generalize doneL c (rootR c l) k = dv at *
     generalize ((List.range k).filter (lateB c l)).map (natI) = Q at *
     have hL2 : (Q.map tI).length = n := by rw [List.length_map, hn]
     cases hb2 : lateB c l k
     ·have hs2 := y0 hb2
      rw [hb2] at c5
      clear hB
      repeat' (first | ((with_reducible refine kAL ?_); (first | (refine kL 719 rfl ?_; first | refine A_lit rfl rfl 22 1 _ rfl ud22 inf3 (.cons rfl .nil) (els := [[_]]) rfl (by first | exact qN) rfl (Nat.ne_of_beq_eq_false rfl) (Nat.le_of_ble_eq_true rfl) (Nat.le_of_ble_eq_true rfl) (.push qL qN) ?_) | (refine kL 12 rfl ?_; first | refine A_append_nlsub rfl rfl _ _ 22 rfl ud22 inf3 rfl rfl rfl rfl (by (try simp only [List.length_map, List.length_append, List.length_cons, List.length_nil]); omega) qB qB List.map_drop.symm (.push qL qN) ?_) | refine uA ?_)) | ((with_reducible refine kRG ?_); (first | (refine kR 1034 rfl ?_; first | (first | refine uQ (c3) 0 ?_ | refine uQ (c3) 1 ?_ | refine uQ (c3) 2 ?_ | refine uQ (c3) 3 ?_ | refine uQ (c3) 4 ?_ | refine uQ (c3) 5 ?_ | refine uQ (c3) 6 ?_ | refine uQ (c3) 7 ?_ | refine uQ (c3) 8 ?_ | refine uQ (c3) 9 ?_ | refine uQ (c3) 10 ?_ | refine uQ (c3) 11 ?_ | refine uQ (c3) 12 ?_ | refine uQ (c3) 13 ?_)) | (refine kR 1738 rfl ?_; first | (first | refine uQ (c4) 0 ?_ | refine uQ (c4) 1 ?_ | refine uQ (c4) 2 ?_ | refine uQ (c4) 3 ?_ | refine uQ (c4) 4 ?_ | refine uQ (c4) 5 ?_ | refine uQ (c4) 6 ?_ | refine uQ (c4) 7 ?_ | refine uQ (c4) 8 ?_ | refine uQ (c4) 9 ?_ | refine uQ (c4) 10 ?_ | refine uQ (c4) 11 ?_ | refine uQ (c4) 12 ?_ | refine uQ (c4) 13 ?_)) | (refine kR 2090 rfl ?_; first | (first | refine uQ (c5) 0 ?_ | refine uQ (c5) 1 ?_ | refine uQ (c5) 2 ?_ | refine uQ (c5) 3 ?_ | refine uQ (c5) 4 ?_ | refine uQ (c5) 5 ?_ | refine uQ (c5) 6 ?_ | refine uQ (c5) 7 ?_ | refine uQ (c5) 8 ?_ | refine uQ (c5) 9 ?_ | refine uQ (c5) 10 ?_ | refine uQ (c5) 11 ?_ | refine uQ (c5) 12 ?_ | refine uQ (c5) 13 ?_)) | refine uR ?_)) | refine uC ?_ | refine kcp rfl (fun hc => ?_) (fun hc => ?_) | refine kcn rfl (fun hc => ?_) (fun hc => ?_) | refine kcb rfl (fun hc => ?_) (fun hc => ?_) | refine kcc rfl (fun hc => ?_) (fun hc => ?_) | refine AW.drawU (id := 8) mixed 0 qR ?_ | fail)
      all_goals first | (exfalso; omega) | skip
      refine ⟨⟨k + 1, v, n⟩, ⟨by dsimp only; omega, by dsimp only; rw [hs2, hn]⟩, by dsimp only; omega, ?_⟩
      dsimp only
      rw [hs2]
      exact Wk.cq 3
     ·have hs2 := y1 hb2
      rw [hb2] at c5
      clear hB
      dsimp only [natI] at hs2
      repeat' (first | ((with_reducible refine kAL ?_); (first | (refine kL 719 rfl ?_; first | refine A_lit rfl rfl 22 1 _ rfl ud22 inf3 (.cons rfl .nil) (els := [[_]]) rfl (by first | exact (rfl : _ = List.map tI [_]) | exact qN) rfl (Nat.ne_of_beq_eq_false rfl) (Nat.le_of_ble_eq_true rfl) (Nat.le_of_ble_eq_true rfl) (.push qL qN) ?_) | (refine kL 12 rfl ?_; first | refine A_append_nlsub rfl rfl _ _ 22 rfl ud22 inf3 rfl rfl rfl rfl (by (try simp only [List.length_map, List.length_append, List.length_cons, List.length_nil]); omega) qB qB List.map_drop.symm (.push qL qN) ?_) | refine uA ?_)) | ((with_reducible refine kRG ?_); (first | (refine kR 1034 rfl ?_; first | (first | refine uQ (c3) 0 ?_ | refine uQ (c3) 1 ?_ | refine uQ (c3) 2 ?_ | refine uQ (c3) 3 ?_ | refine uQ (c3) 4 ?_ | refine uQ (c3) 5 ?_ | refine uQ (c3) 6 ?_ | refine uQ (c3) 7 ?_ | refine uQ (c3) 8 ?_ | refine uQ (c3) 9 ?_ | refine uQ (c3) 10 ?_ | refine uQ (c3) 11 ?_ | refine uQ (c3) 12 ?_ | refine uQ (c3) 13 ?_)) | (refine kR 1738 rfl ?_; first | (first | refine uQ (c4) 0 ?_ | refine uQ (c4) 1 ?_ | refine uQ (c4) 2 ?_ | refine uQ (c4) 3 ?_ | refine uQ (c4) 4 ?_ | refine uQ (c4) 5 ?_ | refine uQ (c4) 6 ?_ | refine uQ (c4) 7 ?_ | refine uQ (c4) 8 ?_ | refine uQ (c4) 9 ?_ | refine uQ (c4) 10 ?_ | refine uQ (c4) 11 ?_ | refine uQ (c4) 12 ?_ | refine uQ (c4) 13 ?_)) | (refine kR 2090 rfl ?_; first | (first | refine uQ (c5) 0 ?_ | refine uQ (c5) 1 ?_ | refine uQ (c5) 2 ?_ | refine uQ (c5) 3 ?_ | refine uQ (c5) 4 ?_ | refine uQ (c5) 5 ?_ | refine uQ (c5) 6 ?_ | refine uQ (c5) 7 ?_ | refine uQ (c5) 8 ?_ | refine uQ (c5) 9 ?_ | refine uQ (c5) 10 ?_ | refine uQ (c5) 11 ?_ | refine uQ (c5) 12 ?_ | refine uQ (c5) 13 ?_)) | refine uR ?_)) | refine uC ?_ | refine kcp rfl (fun hc => ?_) (fun hc => ?_) | refine kcn rfl (fun hc => ?_) (fun hc => ?_) | refine kcb rfl (fun hc => ?_) (fun hc => ?_) | refine kcc rfl (fun hc => ?_) (fun hc => ?_) | refine AW.drawU (id := 8) mixed 0 qR ?_ | fail)
      all_goals first | (exfalso; omega) | skip
      refine ⟨⟨k + 1, v + 1, n + 1⟩, ⟨by dsimp only; omega, by dsimp only; rw [hs2, List.length_append, hn]; rfl⟩, by dsimp only; omega, ?_⟩
      dsimp only
      rw [hs2]
      exact Wk.cq 3
    ·have e : k = T := by omega
     rw [e] at hn ⊢
     rw [← hn]
     repeat' (first | ((with_reducible refine kAL ?_); (first | (refine kL 719 rfl ?_; first | refine A_lit rfl rfl 22 1 _ rfl ud22 inf3 (.cons rfl .nil) (els := [[_]]) rfl (by first | exact qN) rfl (Nat.ne_of_beq_eq_false rfl) (Nat.le_of_ble_eq_true rfl) (Nat.le_of_ble_eq_true rfl) (.push qL qN) ?_) | (refine kL 12 rfl ?_; first | refine A_append_nlsub rfl rfl _ _ 22 rfl ud22 inf3 rfl rfl rfl rfl (by (try simp only [List.length_map, List.length_append, List.length_cons, List.length_nil]); omega) qB qB List.map_drop.symm (.push qL qN) ?_) | refine uA ?_)) | refine uR ?_ | refine uC ?_ | refine kcp rfl (fun hc => ?_) (fun hc => ?_) | refine kcn rfl (fun hc => ?_) (fun hc => ?_) | refine kcb rfl (fun hc => ?_) (fun hc => ?_) | refine kcc rfl (fun hc => ?_) (fun hc => ?_) | refine AW.drawU (id := 8) mixed 6 qR ?_ | fail)
     all_goals first | (exfalso; omega) | ((first | exact Fin.q Try.results19 (.cons (.tmp rfl) .nil) [2] | refine Fin.q Try.results19 (.cons (.tmp rfl) .nil) [2] (hr := (.t ?_)) | refine Fin.mkv (rs := _) Try.results19 (.cons (.tmp rfl) .nil) [2] (by decide) rfl ?_ ?_ ?_ <;> repeat' (skip; first | exact .nil | refine .cons rfl ?_ ?_ | refine .cons ?_ ?_ | refine .row ?_ | refine .rset ?_ | refine .box ?_ | exact .gone | refine .aggL ?_ | refine .tupL ?_ | refine .old rfl ?_ | refine .new rfl rfl rfl ?_ | exact .nl | exact .optr rfl | exact .nptr rfl rfl rfl | refine .t ?_ | exact .any _ | rfl)))
  generalize lateM c l = Q at *
  have h0' := Cd.frz1 h0 0 rfl (by repeat' (first | exact FzL.nil | apply FzL.cons | exact FzR.nlt | exact FzR.all (by first | rfl | (simp <;> fail) | (simp; omega)) | exact FzR.sl (by first | exact Nat.le_refl _ | (simp <;> fail) | (simp; omega)) | apply FzR.aggL | exact FzR.same _)) rfl; exact Cd.drop h0' rfl
structure rlateMS where
 k : Nat
 v : Nat
 n : Nat
theorem rlateM_c (c : DConf) (hs : c.start.length ≤ 1152921504606846976) (l : List Int) (hU : okU l) : Cd Try.prog 20 [aCf c, .ln (l.map tU)] (.t (.lst ((lateM c l).map tI))) [] := by
 have h1 : (l.map tU).length = l.length := List.length_map _
 obtain ⟨rk1, rk2⟩ := rootR_ok (c := c) hU
 have c1 := rroot_c c hs l hU
 cases hf : rOkM c l
 ·rw [hf] at c1
  unfold lateM
  rw [hf, if_neg (by simp)]
  generalize rootR c l = rc at *
  refine Cd.enter' Try.func20 rfl Try.ntmps20 rfl ?_
  repeat' (first | ((with_reducible refine kAL ?_); (first | (refine kL 1802 rfl ?_; first | refine uK (c1) ?_) | (refine kL 719 rfl ?_; first | refine A_lit rfl rfl 22 1 _ rfl ud22 inf3 (.cons rfl .nil) (els := [[_]]) rfl (by first | exact qN) rfl (Nat.ne_of_beq_eq_false rfl) (Nat.le_of_ble_eq_true rfl) (Nat.le_of_ble_eq_true rfl) (.push qL qN) ?_) | (refine kL 12 rfl ?_; first | refine A_append_nlsub rfl rfl _ _ 22 rfl ud22 inf3 rfl rfl rfl rfl (by (try simp only [List.length_map, List.length_append, List.length_cons, List.length_nil]); omega) qB qB List.map_drop.symm (.push qL qN) ?_) | refine uA ?_ | refine uS 18 (fun hb => ?_) (fun hb => ?_))) | refine uR ?_ | refine uC ?_ | refine kcp rfl (fun hc => ?_) (fun hc => ?_) | refine kcn rfl (fun hc => ?_) (fun hc => ?_) | refine kcb rfl (fun hc => ?_) (fun hc => ?_) | refine kcc rfl (fun hc => ?_) (fun hc => ?_) | refine AW.drawU (id := 6) mixed 6 qR ?_ | fail)
  all_goals first | (exfalso; omega) | skip
  refine AW.loopP (fun (k : Nat) => True) (fun (k : Nat) => (pu (pu (pu (pu (pu (pu (pu (fun _ => .any) 1 (.ln (l.map tU))) 2 (.ptr 0 0)) 5 (.nl)) 6 (.ptr 1 0)) 7 (fU rc)) 8 (bo false)) 9 (i64 0))) (fun (k : Nat) => [.box 24 [i64 c.kind, i64 c.threads, i64 c.chans, i64 c.cap, i64 c.nodes, i64 c.retire, i64 c.patience, i64 c.tags, i64 c.seqs, i64 c.gens, .ln (c.start.map tI)], .box 55 [i64 (rootI c l), i64 (rootT c l)]]) (fun (k : Nat) => 0) (0) ?_ ?_ ?_
  ·trivial
  ·exact Wk.cq 2
  intro k _
  repeat' (first | ((with_reducible refine kAL ?_); (first | (refine kL 1 rfl ?_; first | ((first | refine A_as (d := 4) rfl rfl rfl rfl ?_ | refine A_move (d := 4) rfl rfl _ (.inr rfl) (y := .sl _ _ _) rfl ?_ | refine A_move (d := 4) rfl rfl _ (.inr rfl) (y := .nl) rfl ?_ | refine A_move (d := 4) rfl rfl _ (.inr rfl) (y := .ptr _ _) rfl ?_ | refine A_move (d := 4) rfl rfl _ (.inr rfl) (y := .ln _) rfl ?_ | refine A_move (d := 4) rfl rfl _ (.inr rfl) (y := .lp _) rfl ?_ | refine A_move (d := 4) rfl rfl _ (.inr rfl) (y := .fn _ _ _) rfl ?_ | refine A_move (d := 4) rfl rfl _ (.inr rfl) (y := .sub _ _ _ _) rfl ?_ | refine A_move (d := 4) rfl rfl _ (.inr rfl) (y := .rp _ _ _ _) rfl ?_ | refine A_move (d := 4) rfl rfl _ (.inr rfl) (y := .agg _) rfl ?_ | refine A_move (d := 4) rfl rfl _ (.inr rfl) (y := .tup _) rfl ?_); (try refine uz 4 ?_))) | (refine kL 719 rfl ?_; first | refine A_lit rfl rfl 22 1 _ rfl ud22 inf3 (.cons rfl .nil) (els := [[_]]) rfl (by first | exact qN) rfl (Nat.ne_of_beq_eq_false rfl) (Nat.le_of_ble_eq_true rfl) (Nat.le_of_ble_eq_true rfl) (.push qL qN) ?_) | (refine kL 12 rfl ?_; first | refine A_append_nlsub rfl rfl _ _ 22 rfl ud22 inf3 rfl rfl rfl rfl (by (try simp only [List.length_map, List.length_append, List.length_cons, List.length_nil]); omega) qB qB List.map_drop.symm (.push qL qN) ?_) | refine uA ?_ | refine uS 18 (fun hb => ?_) (fun hb => ?_))) | refine uR ?_ | refine uC ?_ | refine kcp rfl (fun hc => ?_) (fun hc => ?_) | refine kcn rfl (fun hc => ?_) (fun hc => ?_) | refine kcb rfl (fun hc => ?_) (fun hc => ?_) | refine kcc rfl (fun hc => ?_) (fun hc => ?_) | refine AW.drawU (id := 6) mixed 6 qR ?_ | fail)
  all_goals first | (exfalso; omega) | ((first | exact Fin.q Try.results20 (.cons (.tmp rfl) .nil) [] | refine Fin.q Try.results20 (.cons (.tmp rfl) .nil) [] (hr := (.t ?_)) | refine Fin.mkv (rs := _) Try.results20 (.cons (.tmp rfl) .nil) [] (by decide) rfl ?_ ?_ ?_ <;> repeat' (skip; first | exact .nil | refine .cons rfl ?_ ?_ | refine .cons ?_ ?_ | refine .row ?_ | refine .rset ?_ | refine .box ?_ | exact .gone | refine .aggL ?_ | refine .tupL ?_ | refine .old rfl ?_ | refine .new rfl rfl rfl ?_ | exact .nl | exact .optr rfl | exact .nptr rfl rfl rfl | refine .t ?_ | exact .any _ | rfl)))
 ·have hff : fitM c l = true := by cases g : fitM c l; rw [fm_no g] at hf; cases hf; rfl
  obtain ⟨T, X, F⟩ := fm_of hff
  have hth := F.th
  have ht0 := F.t0
  have htop := F.top
  have hT : c.threads.toNat = T := by omega
  have hM : lateM c l = ((List.range T).filter (lateB c l)).map (natI) := by unfold lateM; rw [hf, if_pos rfl, hT]
  rw [hf] at c1
  have h0 : Cd Try.prog 20 [aCf c, .ln (l.map tU)] (.sl 0 0 (lateM c l).length) [.row 0 3 1 ((lateM c l).map tI)] := by
   rw [hM]
   refine Cd.enter' Try.func20 rfl Try.ntmps20 rfl ?_
   repeat' (first | ((with_reducible refine kAL ?_); (first | (refine kL 1802 rfl ?_; first | refine uK (c1) ?_) | (refine kL 719 rfl ?_; first | refine A_lit rfl rfl 22 1 _ rfl ud22 inf3 (.cons rfl .nil) (els := [[_]]) rfl (by first | exact qN) rfl (Nat.ne_of_beq_eq_false rfl) (Nat.le_of_ble_eq_true rfl) (Nat.le_of_ble_eq_true rfl) (.push qL qN) ?_) | (refine kL 12 rfl ?_; first | refine A_append_nlsub rfl rfl _ _ 22 rfl ud22 inf3 rfl rfl rfl rfl (by (try simp only [List.length_map, List.length_append, List.length_cons, List.length_nil]); omega) qB qB List.map_drop.symm (.push qL qN) ?_) | refine uA ?_ | refine uS 18 (fun hb => ?_) (fun hb => ?_))) | refine uR ?_ | refine uC ?_ | refine kcp rfl (fun hc => ?_) (fun hc => ?_) | refine kcn rfl (fun hc => ?_) (fun hc => ?_) | refine kcb rfl (fun hc => ?_) (fun hc => ?_) | refine kcc rfl (fun hc => ?_) (fun hc => ?_) | refine AW.drawU (id := 6) mixed 6 qR ?_ | fail)
   all_goals first | (exfalso; omega) | skip
   refine AW.wk (Wk.own 5 rfl 3 1 (.push rfl rfl)) ?_
   refine AW.loopP (fun (x : rlateMS) => x.k ≤ T ∧ x.n = (((List.range x.k).filter (lateB c l)).map (natI)).length) (fun (x : rlateMS) => (pu (pu (pu (pu (pu (pu (pu (fun _ => .any) 1 (.ln (l.map tU))) 2 (.ptr 0 0)) 5 (.sl 2 x.v x.n)) 6 (.ptr 1 0)) 7 (fU (rootR c l))) 8 (bo true)) 9 (i64 x.k))) (fun (x : rlateMS) => [.box 24 [i64 c.kind, i64 c.threads, i64 c.chans, i64 c.cap, i64 c.nodes, i64 c.retire, i64 c.patience, i64 c.tags, i64 c.seqs, i64 c.gens, .ln (c.start.map tI)], .box 55 [i64 (rootI c l), i64 (rootT c l)], .row x.v 3 1 ((((List.range x.k).filter (lateB c l)).map (natI)).map tI)]) (fun (x : rlateMS) => T - x.k) (⟨0, 0, 0⟩) ?_ ?_ ?_
   ·exact ⟨Nat.zero_le _, rfl⟩
   ·exact Wk.cq 3
   ·rintro ⟨k, v, n⟩ ⟨hk, hn⟩
    dsimp only at hk hn ⊢
    have hnk := rng_len (lateB c l) (natI) k
    by_cases hk2 : k < T
    ·have y1 := rng_yes (lateB c l) (natI) k
     have y0 := rng_no (lateB c l) (natI) k
     obtain ⟨e1, e2⟩ := F.mail hk2
     have c3 := rmailL_c c k
     rw [e1] at c3
     obtain ⟨w1, w2, w3⟩ := u_at hU e2
     have c4 := rdone_o c hs (rootR c l) k (by omega)
     have db := doneL_b (c := c) rk1 k
     have c5 := rbehind_c (l.getD (3 + T * 8 + k) 0) (doneL c (rootR c l) k) ⟨w2, w3⟩ db
     have hB : lateB c l k = decide (rankR (readR (l.getD (3 + T * 8 + k) 0)) < rankR (readR (doneL c (rootR c l) k))) := by unfold lateB; rw [hT]
     rw [← hB] at c5
     generalize l.getD (3 + T * 8 + k) 0 = w at *
     generalize doneL c (rootR c l) k = dv at *
     generalize ((List.range k).filter (lateB c l)).map (natI) = Q at *
     have hL2 : (Q.map tI).length = n := by rw [List.length_map, hn]
     cases hb2 : lateB c l k
     ·have hs2 := y0 hb2
      rw [hb2] at c5
      clear hB
      repeat' (first | ((with_reducible refine kAL ?_); (first | (refine kL 719 rfl ?_; first | refine A_lit rfl rfl 22 1 _ rfl ud22 inf3 (.cons rfl .nil) (els := [[_]]) rfl (by first | exact qN) rfl (Nat.ne_of_beq_eq_false rfl) (Nat.le_of_ble_eq_true rfl) (Nat.le_of_ble_eq_true rfl) (.push qL qN) ?_) | (refine kL 12 rfl ?_; first | refine A_append_nlsub rfl rfl _ _ 22 rfl ud22 inf3 rfl rfl rfl rfl (by (try simp only [List.length_map, List.length_append, List.length_cons, List.length_nil]); omega) qB qB List.map_drop.symm (.push qL qN) ?_) | refine uA ?_ | refine uS 18 (fun hb => ?_) (fun hb => ?_))) | ((with_reducible refine kRG ?_); (first | (refine kR 1066 rfl ?_; first | (first | refine uQ (c3) 0 ?_ | refine uQ (c3) 1 ?_ | refine uQ (c3) 2 ?_ | refine uQ (c3) 3 ?_ | refine uQ (c3) 4 ?_ | refine uQ (c3) 5 ?_ | refine uQ (c3) 6 ?_ | refine uQ (c3) 7 ?_ | refine uQ (c3) 8 ?_ | refine uQ (c3) 9 ?_ | refine uQ (c3) 10 ?_ | refine uQ (c3) 11 ?_ | refine uQ (c3) 12 ?_ | refine uQ (c3) 13 ?_)) | (refine kR 1898 rfl ?_; first | (first | refine uQ (c4) 0 ?_ | refine uQ (c4) 1 ?_ | refine uQ (c4) 2 ?_ | refine uQ (c4) 3 ?_ | refine uQ (c4) 4 ?_ | refine uQ (c4) 5 ?_ | refine uQ (c4) 6 ?_ | refine uQ (c4) 7 ?_ | refine uQ (c4) 8 ?_ | refine uQ (c4) 9 ?_ | refine uQ (c4) 10 ?_ | refine uQ (c4) 11 ?_ | refine uQ (c4) 12 ?_ | refine uQ (c4) 13 ?_)) | (refine kR 2122 rfl ?_; first | (first | refine uQ (c5) 0 ?_ | refine uQ (c5) 1 ?_ | refine uQ (c5) 2 ?_ | refine uQ (c5) 3 ?_ | refine uQ (c5) 4 ?_ | refine uQ (c5) 5 ?_ | refine uQ (c5) 6 ?_ | refine uQ (c5) 7 ?_ | refine uQ (c5) 8 ?_ | refine uQ (c5) 9 ?_ | refine uQ (c5) 10 ?_ | refine uQ (c5) 11 ?_ | refine uQ (c5) 12 ?_ | refine uQ (c5) 13 ?_)) | refine uR ?_)) | refine uC ?_ | refine kcp rfl (fun hc => ?_) (fun hc => ?_) | refine kcn rfl (fun hc => ?_) (fun hc => ?_) | refine kcb rfl (fun hc => ?_) (fun hc => ?_) | refine kcc rfl (fun hc => ?_) (fun hc => ?_) | refine AW.drawU (id := 6) mixed 0 qR ?_ | fail)
      all_goals first | (exfalso; omega) | skip
      refine ⟨⟨k + 1, v, n⟩, ⟨by dsimp only; omega, by dsimp only; rw [hs2, hn]⟩, by dsimp only; omega, ?_⟩
      dsimp only
      rw [hs2]
      exact Wk.cq 3
     ·have hs2 := y1 hb2
      rw [hb2] at c5
      clear hB
      dsimp only [natI] at hs2
      repeat' (first | ((with_reducible refine kAL ?_); (first | (refine kL 719 rfl ?_; first | refine A_lit rfl rfl 22 1 _ rfl ud22 inf3 (.cons rfl .nil) (els := [[_]]) rfl (by first | exact (rfl : _ = List.map tI [_]) | exact qN) rfl (Nat.ne_of_beq_eq_false rfl) (Nat.le_of_ble_eq_true rfl) (Nat.le_of_ble_eq_true rfl) (.push qL qN) ?_) | (refine kL 12 rfl ?_; first | refine A_append_nlsub rfl rfl _ _ 22 rfl ud22 inf3 rfl rfl rfl rfl (by (try simp only [List.length_map, List.length_append, List.length_cons, List.length_nil]); omega) qB qB List.map_drop.symm (.push qL qN) ?_) | refine uA ?_ | refine uS 18 (fun hb => ?_) (fun hb => ?_))) | ((with_reducible refine kRG ?_); (first | (refine kR 1066 rfl ?_; first | (first | refine uQ (c3) 0 ?_ | refine uQ (c3) 1 ?_ | refine uQ (c3) 2 ?_ | refine uQ (c3) 3 ?_ | refine uQ (c3) 4 ?_ | refine uQ (c3) 5 ?_ | refine uQ (c3) 6 ?_ | refine uQ (c3) 7 ?_ | refine uQ (c3) 8 ?_ | refine uQ (c3) 9 ?_ | refine uQ (c3) 10 ?_ | refine uQ (c3) 11 ?_ | refine uQ (c3) 12 ?_ | refine uQ (c3) 13 ?_)) | (refine kR 1898 rfl ?_; first | (first | refine uQ (c4) 0 ?_ | refine uQ (c4) 1 ?_ | refine uQ (c4) 2 ?_ | refine uQ (c4) 3 ?_ | refine uQ (c4) 4 ?_ | refine uQ (c4) 5 ?_ | refine uQ (c4) 6 ?_ | refine uQ (c4) 7 ?_ | refine uQ (c4) 8 ?_ | refine uQ (c4) 9 ?_ | refine uQ (c4) 10 ?_ | refine uQ (c4) 11 ?_ | refine uQ (c4) 12 ?_ | refine uQ (c4) 13 ?_)) | (refine kR 2122 rfl ?_; first | (first | refine uQ (c5) 0 ?_ | refine uQ (c5) 1 ?_ | refine uQ (c5) 2 ?_ | refine uQ (c5) 3 ?_ | refine uQ (c5) 4 ?_ | refine uQ (c5) 5 ?_ | refine uQ (c5) 6 ?_ | refine uQ (c5) 7 ?_ | refine uQ (c5) 8 ?_ | refine uQ (c5) 9 ?_ | refine uQ (c5) 10 ?_ | refine uQ (c5) 11 ?_ | refine uQ (c5) 12 ?_ | refine uQ (c5) 13 ?_)) | refine uR ?_)) | refine uC ?_ | refine kcp rfl (fun hc => ?_) (fun hc => ?_) | refine kcn rfl (fun hc => ?_) (fun hc => ?_) | refine kcb rfl (fun hc => ?_) (fun hc => ?_) | refine kcc rfl (fun hc => ?_) (fun hc => ?_) | refine AW.drawU (id := 6) mixed 0 qR ?_ | fail)
      all_goals first | (exfalso; omega) | skip
      refine ⟨⟨k + 1, v + 1, n + 1⟩, ⟨by dsimp only; omega, by dsimp only; rw [hs2, List.length_append, hn]; rfl⟩, by dsimp only; omega, ?_⟩
      dsimp only
      rw [hs2]
      exact Wk.cq 3
    ·have e : k = T := by omega
     rw [e] at hn ⊢
     rw [← hn]
     repeat' (first | ((with_reducible refine kAL ?_); (first | (refine kL 719 rfl ?_; first | refine A_lit rfl rfl 22 1 _ rfl ud22 inf3 (.cons rfl .nil) (els := [[_]]) rfl (by first | exact qN) rfl (Nat.ne_of_beq_eq_false rfl) (Nat.le_of_ble_eq_true rfl) (Nat.le_of_ble_eq_true rfl) (.push qL qN) ?_) | (refine kL 12 rfl ?_; first | refine A_append_nlsub rfl rfl _ _ 22 rfl ud22 inf3 rfl rfl rfl rfl (by (try simp only [List.length_map, List.length_append, List.length_cons, List.length_nil]); omega) qB qB List.map_drop.symm (.push qL qN) ?_) | refine uA ?_ | refine uS 18 (fun hb => ?_) (fun hb => ?_))) | refine uR ?_ | refine uC ?_ | refine kcp rfl (fun hc => ?_) (fun hc => ?_) | refine kcn rfl (fun hc => ?_) (fun hc => ?_) | refine kcb rfl (fun hc => ?_) (fun hc => ?_) | refine kcc rfl (fun hc => ?_) (fun hc => ?_) | refine AW.drawU (id := 6) mixed 6 qR ?_ | fail)
     all_goals first | (exfalso; omega) | ((first | exact Fin.q Try.results20 (.cons (.tmp rfl) .nil) [2] | refine Fin.q Try.results20 (.cons (.tmp rfl) .nil) [2] (hr := (.t ?_)) | refine Fin.mkv (rs := _) Try.results20 (.cons (.tmp rfl) .nil) [2] (by decide) rfl ?_ ?_ ?_ <;> repeat' (skip; first | exact .nil | refine .cons rfl ?_ ?_ | refine .cons ?_ ?_ | refine .row ?_ | refine .rset ?_ | refine .box ?_ | exact .gone | refine .aggL ?_ | refine .tupL ?_ | refine .old rfl ?_ | refine .new rfl rfl rfl ?_ | exact .nl | exact .optr rfl | exact .nptr rfl rfl rfl | refine .t ?_ | exact .any _ | rfl)))
  generalize lateM c l = Q at *
  have h0' := Cd.frz1 h0 0 rfl (by repeat' (first | exact FzL.nil | apply FzL.cons | exact FzR.nlt | exact FzR.all (by first | rfl | (simp <;> fail) | (simp; omega)) | exact FzR.sl (by first | exact Nat.le_refl _ | (simp <;> fail) | (simp; omega)) | apply FzR.aggL | exact FzR.same _)) rfl; exact Cd.drop h0' rfl
structure iannMS where
 k : Nat
 v : Nat
 n : Nat
theorem iannM_c (c : DConf) (hs : c.start.length ≤ 1152921504606846976) (l : List Int) (hU : okU l) : Cd Try.prog 8 [aCf c, .ln (l.map tU)] (.t (.lst ((annM c l).map tOp))) [] := by
 have h1 : (l.map tU).length = l.length := List.length_map _
 obtain ⟨rk1, rk2⟩ := rootR_ok (c := c) hU
 have c1 := iroot_c c hs l hU
 cases hf : rOkM c l
 ·rw [hf] at c1
  unfold annM
  rw [hf, if_neg (by simp)]
  generalize rootR c l = rc at *
  refine Cd.enter' Try.func8 rfl Try.ntmps8 rfl ?_
  repeat' (first | ((with_reducible refine kAL ?_); (first | (refine kL 1 rfl ?_; first | ((first | refine A_as (d := 4) rfl rfl rfl rfl ?_ | refine A_move (d := 4) rfl rfl _ (.inr rfl) (y := .sl _ _ _) rfl ?_ | refine A_move (d := 4) rfl rfl _ (.inr rfl) (y := .nl) rfl ?_ | refine A_move (d := 4) rfl rfl _ (.inr rfl) (y := .ptr _ _) rfl ?_ | refine A_move (d := 4) rfl rfl _ (.inr rfl) (y := .ln _) rfl ?_ | refine A_move (d := 4) rfl rfl _ (.inr rfl) (y := .lp _) rfl ?_ | refine A_move (d := 4) rfl rfl _ (.inr rfl) (y := .fn _ _ _) rfl ?_ | refine A_move (d := 4) rfl rfl _ (.inr rfl) (y := .sub _ _ _ _) rfl ?_ | refine A_move (d := 4) rfl rfl _ (.inr rfl) (y := .rp _ _ _ _) rfl ?_ | refine A_move (d := 4) rfl rfl _ (.inr rfl) (y := .agg _) rfl ?_ | refine A_move (d := 4) rfl rfl _ (.inr rfl) (y := .tup _) rfl ?_); (try refine uz 4 ?_))) | (refine kL 1674 rfl ?_; first | refine uK (c1) ?_) | (refine kL 879 rfl ?_; first | refine A_lit rfl rfl 27 1 _ rfl ud27 inf65 (.cons rfl .nil) (els := [[_, _, _, _, _, _, _, _]]) rfl (by first | exact qN) rfl (Nat.ne_of_beq_eq_false rfl) (Nat.le_of_ble_eq_true rfl) (Nat.le_of_ble_eq_true rfl) (.push qL qN) ?_) | (refine kL 12 rfl ?_; first | refine A_append_nlsub rfl rfl _ _ 27 rfl ud27 inf65 rfl rfl rfl rfl (by (try simp only [List.length_map, List.length_append, List.length_cons, List.length_nil]); omega) qB qB List.map_drop.symm (.push qL qN) ?_) | refine uA ?_ | refine uS 55 (fun hb => ?_) (fun hb => ?_) | refine uS 59 (fun hb => ?_) (fun hb => ?_))) | refine uC ?_ | refine kcp rfl (fun hc => ?_) (fun hc => ?_) | refine kcn rfl (fun hc => ?_) (fun hc => ?_) | refine kcb rfl (fun hc => ?_) (fun hc => ?_) | refine kcc rfl (fun hc => ?_) (fun hc => ?_) | fail)
  all_goals first | (exfalso; omega) | ((first | exact Fin.q Try.results8 (.cons (.tmp rfl) .nil) [] | refine Fin.q Try.results8 (.cons (.tmp rfl) .nil) [] (hr := (.t ?_)) | refine Fin.mkv (rs := _) Try.results8 (.cons (.tmp rfl) .nil) [] (by decide) rfl ?_ ?_ ?_ <;> repeat' (skip; first | exact .nil | refine .cons rfl ?_ ?_ | refine .cons ?_ ?_ | refine .row ?_ | refine .rset ?_ | refine .box ?_ | exact .gone | refine .aggL ?_ | refine .tupL ?_ | refine .old rfl ?_ | refine .new rfl rfl rfl ?_ | exact .nl | exact .optr rfl | exact .nptr rfl rfl rfl | refine .t ?_ | exact .any _ | rfl)))
 ·have hff : fitM c l = true := by cases g : fitM c l; rw [fm_no g] at hf; cases hf; rfl
  obtain ⟨T, X, F⟩ := fm_of hff
  have hth := F.th
  have ht0 := F.t0
  have htop := F.top
  have hT : c.threads.toNat = T := by omega
  have hM : annM c l = ((List.range T).filter (annB c l)).map (annF c l) := by unfold annM; rw [hf, if_pos rfl, hT]
  rw [hf] at c1
  have h0 : Cd Try.prog 8 [aCf c, .ln (l.map tU)] (.sl 0 0 (annM c l).length) [.row 0 65 8 ((annM c l).map tOp)] := by
   rw [hM]
   refine Cd.enter' Try.func8 rfl Try.ntmps8 rfl ?_
   repeat' (first | ((with_reducible refine kAL ?_); (first | (refine kL 1674 rfl ?_; first | refine uK (c1) ?_) | (refine kL 879 rfl ?_; first | refine A_lit rfl rfl 27 1 _ rfl ud27 inf65 (.cons rfl .nil) (els := [[_, _, _, _, _, _, _, _]]) rfl (by first | exact qN) rfl (Nat.ne_of_beq_eq_false rfl) (Nat.le_of_ble_eq_true rfl) (Nat.le_of_ble_eq_true rfl) (.push qL qN) ?_) | (refine kL 12 rfl ?_; first | refine A_append_nlsub rfl rfl _ _ 27 rfl ud27 inf65 rfl rfl rfl rfl (by (try simp only [List.length_map, List.length_append, List.length_cons, List.length_nil]); omega) qB qB List.map_drop.symm (.push qL qN) ?_) | refine uA ?_ | refine uS 55 (fun hb => ?_) (fun hb => ?_) | refine uS 59 (fun hb => ?_) (fun hb => ?_))) | refine uC ?_ | refine kcp rfl (fun hc => ?_) (fun hc => ?_) | refine kcn rfl (fun hc => ?_) (fun hc => ?_) | refine kcb rfl (fun hc => ?_) (fun hc => ?_) | refine kcc rfl (fun hc => ?_) (fun hc => ?_) | fail)
   all_goals first | (exfalso; omega) | skip
   refine AW.wk (Wk.own 8 rfl 65 8 (.push rfl rfl)) ?_
   refine AW.loopP (fun (x : iannMS) => x.k ≤ T ∧ x.n = (((List.range x.k).filter (annB c l)).map (annF c l)).length) (fun (x : iannMS) => (pu (pu (pu (pu (pu (pu (pu (fun _ => .any) 1 (.ln (l.map tU))) 2 (.ptr 0 0)) 5 (.ptr 1 0)) 6 (fU (rootR c l))) 8 (.sl 2 x.v x.n)) 26 (i64 c.threads)) 27 (i64 x.k))) (fun (x : iannMS) => [.box 24 [i64 c.kind, i64 c.threads, i64 c.chans, i64 c.cap, i64 c.nodes, i64 c.retire, i64 c.patience, i64 c.tags, i64 c.seqs, i64 c.gens, .ln (c.start.map tI)], .box 55 [i64 (rootI c l), i64 (rootT c l)], .row x.v 65 8 ((((List.range x.k).filter (annB c l)).map (annF c l)).map tOp)]) (fun (x : iannMS) => T - x.k) (⟨0, 0, 0⟩) ?_ ?_ ?_
   ·exact ⟨Nat.zero_le _, rfl⟩
   ·exact Wk.cq 3
   ·rintro ⟨k, v, n⟩ ⟨hk, hn⟩
    dsimp only at hk hn ⊢
    have hnk := rng_len (annB c l) (annF c l) k
    by_cases hk2 : k < T
    ·have y1 := rng_yes (annB c l) (annF c l) k
     have y0 := rng_no (annB c l) (annF c l) k
     obtain ⟨e1, e2⟩ := F.args hk2
     obtain ⟨f1, f2⟩ := F.seq hk2
     have c2 := seqL_c c k
     have c3 := argsL_c c k
     rw [e1] at c3
     rw [f1] at c2
     obtain ⟨w1, w2, w3⟩ := u_at hU f2
     have c4 := done1_o c hs (rootR c l) k (by omega)
     have db := doneL_b (c := c) rk1 k
     have c5 := pread_c (doneL c (rootR c l) k) db
     have sb := seq_b db
     have e5 : List.take (Int.toNat (((3 + T + k * 5 : Nat) : Int) + 5) - (3 + T + k * 5)) (l.drop (3 + T + k * 5)) = [l.getD (3 + T + k * 5) 0, l.getD (3 + T + k * 5 + 1) 0, l.getD (3 + T + k * 5 + 2) 0, l.getD (3 + T + k * 5 + 3) 0, l.getD (3 + T + k * 5 + 4) 0] := by rw [show Int.toNat (((3 + T + k * 5 : Nat) : Int) + 5) - (3 + T + k * 5) = 5 by omega]; exact five e2
     have a0 := (u_at hU (n := 3 + T + k * 5) (by omega)).2
     have a1 := (u_at hU (n := 3 + T + k * 5 + 1) (by omega)).2
     have a2 := (u_at hU (n := 3 + T + k * 5 + 2) (by omega)).2
     have a3 := (u_at hU (n := 3 + T + k * 5 + 3) (by omega)).2
     have a4 := (u_at hU (n := 3 + T + k * 5 + 4) (by omega)).2
     have c6 := preadcall_c _ _ _ _ _ a0 a1 a2 a3 a4
     have hB : annB c l k = (mayC (l.getD (3 + T + k * 5) 0) (l.getD (3 + T + k * 5 + 1) 0) (l.getD (3 + T + k * 5 + 2) 0) (l.getD (3 + T + k * 5 + 3) 0) (l.getD (3 + T + k * 5 + 4) 0) && decide (l.getD (3 + k) 0 ≤ 1048575) && decide (l.getD (3 + k) 0 > (readR (doneL c (rootR c l) k)).seq)) := by unfold annB argW; rw [hT]; rfl
     have hfk : annF c l k = ⟨k, l.getD (3 + k) 0, l.getD (3 + T + k * 5 + 4) 0, reqR (l.getD (3 + T + k * 5) 0) (l.getD (3 + T + k * 5 + 1) 0) (l.getD (3 + T + k * 5 + 2) 0) (l.getD (3 + T + k * 5 + 3) 0)⟩ := by unfold annF argW; rw [hT]; rfl
     rw [hfk] at y1
     rw [← e5] at c6
     generalize l.getD (3 + T + k * 5) 0 = b0 at *
     generalize l.getD (3 + T + k * 5 + 1) 0 = b1 at *
     generalize l.getD (3 + T + k * 5 + 2) 0 = b2 at *
     generalize l.getD (3 + T + k * 5 + 3) 0 = b3 at *
     generalize l.getD (3 + T + k * 5 + 4) 0 = b4 at *
     generalize l.getD (3 + k) 0 = w at *
     generalize doneL c (rootR c l) k = dv at *
     unfold reqC phC at c6
     generalize hmc : mayC b0 b1 b2 b3 b4 = mc at *
     generalize reqR b0 b1 b2 b3 = rq at *
     generalize h3A : 3 + T + k * 5 = A0 at *
     generalize h3S : 3 + k = S0 at *
     generalize readR dv = rd at *
     obtain ⟨rd1, rd2, rd3, rd4⟩ := rd
     obtain ⟨q1, q2, q3, q4, q5⟩ := rq
     dsimp only [aR, fRq] at c5 c6 hB sb
     clear hfk e1 f1 e5 hmc a0 a1 a2 a3 db c1
     generalize ((List.range k).filter (annB c l)).map (annF c l) = Q at *
     have hL2 : (Q.map tOp).length = n := by rw [List.length_map, hn]
     cases hb2 : annB c l k
     ·have hs2 := y0 hb2
      rw [hb2] at hB
      cases mc
      ·simp only [Bool.false_eq_true, if_false] at c6
       clear hB
       repeat' (first | ((with_reducible refine kAL ?_); (first | (refine kL 778 rfl ?_; first | refine uK (c2) ?_) | (refine kL 1738 rfl ?_; first | refine uK (c4) ?_) | (refine kL 1706 rfl ?_; first | refine uK (c5) ?_) | (refine kL 842 rfl ?_; first | refine uK (c3) ?_) | (refine kL 1770 rfl ?_; first | refine uK (c6) ?_) | (refine kL 879 rfl ?_; first | refine A_lit rfl rfl 27 1 _ rfl ud27 inf65 (.cons rfl .nil) (els := [[_, _, _, _, _, _, _, _]]) rfl (by first | exact qN) rfl (Nat.ne_of_beq_eq_false rfl) (Nat.le_of_ble_eq_true rfl) (Nat.le_of_ble_eq_true rfl) (.push qL qN) ?_) | (refine kL 12 rfl ?_; first | refine A_append_nlsub rfl rfl _ _ 27 rfl ud27 inf65 rfl rfl rfl rfl (by (try simp only [List.length_map, List.length_append, List.length_cons, List.length_nil]); omega) qB qB List.map_drop.symm (.push qL qN) ?_) | refine uA ?_ | refine uS 55 (fun hb => ?_) (fun hb => ?_) | refine uS 59 (fun hb => ?_) (fun hb => ?_))) | refine uC ?_ | refine kcp rfl (fun hc => ?_) (fun hc => ?_) | refine kcn rfl (fun hc => ?_) (fun hc => ?_) | refine kcb rfl (fun hc => ?_) (fun hc => ?_) | refine kcc rfl (fun hc => ?_) (fun hc => ?_) | fail)
       all_goals first | (exfalso; omega) | skip
       refine ⟨⟨k + 1, v, n⟩, ⟨by dsimp only; omega, by dsimp only; rw [hs2, hn]⟩, by dsimp only; omega, ?_⟩
       dsimp only
       rw [hs2]
       exact Wk.cq 3
      simp only [if_true] at c6
      rw [Bool.true_and] at hB
      have hB2 : ¬ (w ≤ 1048575 ∧ w > rd1) := fun g => by rw [decide_eq_true g.1, decide_eq_true g.2] at hB; cases hB
      clear hB
      by_cases hw5 : w ≤ 1048575
      ·repeat' (first | ((with_reducible refine kAL ?_); (first | (refine kL 778 rfl ?_; first | refine uK (c2) ?_) | (refine kL 1738 rfl ?_; first | refine uK (c4) ?_) | (refine kL 1706 rfl ?_; first | refine uK (c5) ?_) | (refine kL 842 rfl ?_; first | refine uK (c3) ?_) | (refine kL 1770 rfl ?_; first | refine uK (c6) ?_) | (refine kL 879 rfl ?_; first | refine A_lit rfl rfl 27 1 _ rfl ud27 inf65 (.cons rfl .nil) (els := [[_, _, _, _, _, _, _, _]]) rfl (by first | exact qN) rfl (Nat.ne_of_beq_eq_false rfl) (Nat.le_of_ble_eq_true rfl) (Nat.le_of_ble_eq_true rfl) (.push qL qN) ?_) | (refine kL 12 rfl ?_; first | refine A_append_nlsub rfl rfl _ _ 27 rfl ud27 inf65 rfl rfl rfl rfl (by (try simp only [List.length_map, List.length_append, List.length_cons, List.length_nil]); omega) qB qB List.map_drop.symm (.push qL qN) ?_) | refine uA ?_ | refine uS 55 (fun hb => ?_) (fun hb => ?_) | refine uS 59 (fun hb => ?_) (fun hb => ?_))) | refine uC ?_ | refine kcp rfl (fun hc => ?_) (fun hc => ?_) | refine kcn rfl (fun hc => ?_) (fun hc => ?_) | refine kcb rfl (fun hc => ?_) (fun hc => ?_) | refine kcc rfl (fun hc => ?_) (fun hc => ?_) | fail)
       all_goals first | (exfalso; omega) | skip
       refine ⟨⟨k + 1, v, n⟩, ⟨by dsimp only; omega, by dsimp only; rw [hs2, hn]⟩, by dsimp only; omega, ?_⟩
       dsimp only
       rw [hs2]
       exact Wk.cq 3
      repeat' (first | ((with_reducible refine kAL ?_); (first | (refine kL 778 rfl ?_; first | refine uK (c2) ?_) | (refine kL 1738 rfl ?_; first | refine uK (c4) ?_) | (refine kL 1706 rfl ?_; first | refine uK (c5) ?_) | (refine kL 842 rfl ?_; first | refine uK (c3) ?_) | (refine kL 1770 rfl ?_; first | refine uK (c6) ?_) | (refine kL 879 rfl ?_; first | refine A_lit rfl rfl 27 1 _ rfl ud27 inf65 (.cons rfl .nil) (els := [[_, _, _, _, _, _, _, _]]) rfl (by first | exact qN) rfl (Nat.ne_of_beq_eq_false rfl) (Nat.le_of_ble_eq_true rfl) (Nat.le_of_ble_eq_true rfl) (.push qL qN) ?_) | (refine kL 12 rfl ?_; first | refine A_append_nlsub rfl rfl _ _ 27 rfl ud27 inf65 rfl rfl rfl rfl (by (try simp only [List.length_map, List.length_append, List.length_cons, List.length_nil]); omega) qB qB List.map_drop.symm (.push qL qN) ?_) | refine uA ?_ | refine uS 55 (fun hb => ?_) (fun hb => ?_) | refine uS 59 (fun hb => ?_) (fun hb => ?_))) | refine uC ?_ | refine kcp rfl (fun hc => ?_) (fun hc => ?_) | refine kcn rfl (fun hc => ?_) (fun hc => ?_) | refine kcb rfl (fun hc => ?_) (fun hc => ?_) | refine kcc rfl (fun hc => ?_) (fun hc => ?_) | fail)
      all_goals first | (exfalso; omega) | skip
      refine ⟨⟨k + 1, v, n⟩, ⟨by dsimp only; omega, by dsimp only; rw [hs2, hn]⟩, by dsimp only; omega, ?_⟩
      dsimp only
      rw [hs2]
      exact Wk.cq 3
     ·have hs2 := y1 hb2
      rw [hb2] at hB
      simp only [Bool.true_eq, Bool.and_eq_true, decide_eq_true_eq] at hB
      obtain ⟨⟨m1, m2⟩, m3⟩ := hB
      subst m1
      simp only [if_true] at c6
      repeat' (first | ((with_reducible refine kAL ?_); (first | (refine kL 778 rfl ?_; first | refine uK (c2) ?_) | (refine kL 1738 rfl ?_; first | refine uK (c4) ?_) | (refine kL 1706 rfl ?_; first | refine uK (c5) ?_) | (refine kL 842 rfl ?_; first | refine uK (c3) ?_) | (refine kL 1770 rfl ?_; first | refine uK (c6) ?_) | (refine kL 879 rfl ?_; first | refine A_lit rfl rfl 27 1 _ rfl ud27 inf65 (.cons rfl .nil) (els := [[_, _, _, _, _, _, _, _]]) rfl (by first | exact (rfl : _ = List.map tOp [⟨_, _, _, ⟨_, _, _, _, _⟩⟩]) | exact qN) rfl (Nat.ne_of_beq_eq_false rfl) (Nat.le_of_ble_eq_true rfl) (Nat.le_of_ble_eq_true rfl) (.push qL qN) ?_) | (refine kL 12 rfl ?_; first | refine A_append_nlsub rfl rfl _ _ 27 rfl ud27 inf65 rfl rfl rfl rfl (by (try simp only [List.length_map, List.length_append, List.length_cons, List.length_nil]); omega) qB qB List.map_drop.symm (.push qL qN) ?_) | refine uA ?_ | refine uS 55 (fun hb => ?_) (fun hb => ?_) | refine uS 59 (fun hb => ?_) (fun hb => ?_))) | refine uC ?_ | refine kcp rfl (fun hc => ?_) (fun hc => ?_) | refine kcn rfl (fun hc => ?_) (fun hc => ?_) | refine kcb rfl (fun hc => ?_) (fun hc => ?_) | refine kcc rfl (fun hc => ?_) (fun hc => ?_) | fail)
      all_goals first | (exfalso; omega) | skip
      refine ⟨⟨k + 1, v + 1, n + 1⟩, ⟨by dsimp only; omega, by dsimp only; rw [hs2, List.length_append, hn]; rfl⟩, by dsimp only; omega, ?_⟩
      dsimp only
      rw [hs2]
      exact Wk.cq 3
    ·have e : k = T := by omega
     rw [e] at hn ⊢
     rw [← hn]
     repeat' (first | ((with_reducible refine kAL ?_); (first | (refine kL 879 rfl ?_; first | refine A_lit rfl rfl 27 1 _ rfl ud27 inf65 (.cons rfl .nil) (els := [[_, _, _, _, _, _, _, _]]) rfl (by first | exact qN) rfl (Nat.ne_of_beq_eq_false rfl) (Nat.le_of_ble_eq_true rfl) (Nat.le_of_ble_eq_true rfl) (.push qL qN) ?_) | (refine kL 12 rfl ?_; first | refine A_append_nlsub rfl rfl _ _ 27 rfl ud27 inf65 rfl rfl rfl rfl (by (try simp only [List.length_map, List.length_append, List.length_cons, List.length_nil]); omega) qB qB List.map_drop.symm (.push qL qN) ?_) | refine uA ?_ | refine uS 55 (fun hb => ?_) (fun hb => ?_) | refine uS 59 (fun hb => ?_) (fun hb => ?_))) | refine uC ?_ | refine kcp rfl (fun hc => ?_) (fun hc => ?_) | refine kcn rfl (fun hc => ?_) (fun hc => ?_) | refine kcb rfl (fun hc => ?_) (fun hc => ?_) | refine kcc rfl (fun hc => ?_) (fun hc => ?_) | fail)
     all_goals first | (exfalso; omega) | ((first | exact Fin.q Try.results8 (.cons (.tmp rfl) .nil) [2] | refine Fin.q Try.results8 (.cons (.tmp rfl) .nil) [2] (hr := (.t ?_)) | refine Fin.mkv (rs := _) Try.results8 (.cons (.tmp rfl) .nil) [2] (by decide) rfl ?_ ?_ ?_ <;> repeat' (skip; first | exact .nil | refine .cons rfl ?_ ?_ | refine .cons ?_ ?_ | refine .row ?_ | refine .rset ?_ | refine .box ?_ | exact .gone | refine .aggL ?_ | refine .tupL ?_ | refine .old rfl ?_ | refine .new rfl rfl rfl ?_ | exact .nl | exact .optr rfl | exact .nptr rfl rfl rfl | refine .t ?_ | exact .any _ | rfl)))
  generalize annM c l = Q at *
  have h0' := Cd.frz1 h0 0 rfl (by repeat' (first | exact FzL.nil | apply FzL.cons | exact FzR.nlt | exact FzR.all (by first | rfl | (simp <;> fail) | (simp; omega)) | exact FzR.sl (by first | exact Nat.le_refl _ | (simp <;> fail) | (simp; omega)) | apply FzR.aggL | exact FzR.same _)) rfl; exact Cd.drop h0' rfl
structure rannMS where
 k : Nat
 v : Nat
 n : Nat
theorem rannM_c (c : DConf) (hs : c.start.length ≤ 1152921504606846976) (l : List Int) (hU : okU l) : Cd Try.prog 9 [aCf c, .ln (l.map tU)] (.t (.lst ((annM c l).map tOp))) [] := by
 have h1 : (l.map tU).length = l.length := List.length_map _
 obtain ⟨rk1, rk2⟩ := rootR_ok (c := c) hU
 have c1 := rroot_c c hs l hU
 cases hf : rOkM c l
 ·rw [hf] at c1
  unfold annM
  rw [hf, if_neg (by simp)]
  generalize rootR c l = rc at *
  refine Cd.enter' Try.func9 rfl Try.ntmps9 rfl ?_
  repeat' (first | ((with_reducible refine kAL ?_); (first | (refine kL 18 rfl ?_; first | (refine zkD 44 rfl ?_; refine uA ?_; (try refine uz 44 ?_))) | (refine kL 1802 rfl ?_; first | refine uK (c1) ?_) | (refine kL 879 rfl ?_; first | refine A_lit rfl rfl 27 1 _ rfl ud27 inf65 (.cons rfl .nil) (els := [[_, _, _, _, _, _, _, _]]) rfl (by first | exact qN) rfl (Nat.ne_of_beq_eq_false rfl) (Nat.le_of_ble_eq_true rfl) (Nat.le_of_ble_eq_true rfl) (.push qL qN) ?_) | (refine kL 12 rfl ?_; first | refine A_append_nlsub rfl rfl _ _ 27 rfl ud27 inf65 rfl rfl rfl rfl (by (try simp only [List.length_map, List.length_append, List.length_cons, List.length_nil]); omega) qB qB List.map_drop.symm (.push qL qN) ?_) | refine uA ?_ | refine uS 24 (fun hb => ?_) (fun hb => ?_) | refine uS 58 (fun hb => ?_) (fun hb => ?_) | refine uS 62 (fun hb => ?_) (fun hb => ?_))) | refine uC ?_ | refine kcp rfl (fun hc => ?_) (fun hc => ?_) | refine kcn rfl (fun hc => ?_) (fun hc => ?_) | refine kcb rfl (fun hc => ?_) (fun hc => ?_) | refine kcc rfl (fun hc => ?_) (fun hc => ?_) | fail)
  all_goals first | (exfalso; omega) | skip
  refine AW.loopP (fun (k : Nat) => True) (fun (k : Nat) => (pu (pu (pu (pu (pu (pu (pu (fun _ => .any) 1 (.ln (l.map tU))) 2 (.ptr 0 0)) 5 (.nl)) 6 (.ptr 1 0)) 7 (fU rc)) 8 (bo false)) 9 (i64 0))) (fun (k : Nat) => [.box 24 [i64 c.kind, i64 c.threads, i64 c.chans, i64 c.cap, i64 c.nodes, i64 c.retire, i64 c.patience, i64 c.tags, i64 c.seqs, i64 c.gens, .ln (c.start.map tI)], .box 55 [i64 (rootI c l), i64 (rootT c l)]]) (fun (k : Nat) => 0) (0) ?_ ?_ ?_
  ·trivial
  ·exact Wk.cq 2
  intro k _
  repeat' (first | ((with_reducible refine kAL ?_); (first | (refine kL 1 rfl ?_; first | ((first | refine A_as (d := 4) rfl rfl rfl rfl ?_ | refine A_move (d := 4) rfl rfl _ (.inr rfl) (y := .sl _ _ _) rfl ?_ | refine A_move (d := 4) rfl rfl _ (.inr rfl) (y := .nl) rfl ?_ | refine A_move (d := 4) rfl rfl _ (.inr rfl) (y := .ptr _ _) rfl ?_ | refine A_move (d := 4) rfl rfl _ (.inr rfl) (y := .ln _) rfl ?_ | refine A_move (d := 4) rfl rfl _ (.inr rfl) (y := .lp _) rfl ?_ | refine A_move (d := 4) rfl rfl _ (.inr rfl) (y := .fn _ _ _) rfl ?_ | refine A_move (d := 4) rfl rfl _ (.inr rfl) (y := .sub _ _ _ _) rfl ?_ | refine A_move (d := 4) rfl rfl _ (.inr rfl) (y := .rp _ _ _ _) rfl ?_ | refine A_move (d := 4) rfl rfl _ (.inr rfl) (y := .agg _) rfl ?_ | refine A_move (d := 4) rfl rfl _ (.inr rfl) (y := .tup _) rfl ?_); (try refine uz 4 ?_))) | (refine kL 879 rfl ?_; first | refine A_lit rfl rfl 27 1 _ rfl ud27 inf65 (.cons rfl .nil) (els := [[_, _, _, _, _, _, _, _]]) rfl (by first | exact qN) rfl (Nat.ne_of_beq_eq_false rfl) (Nat.le_of_ble_eq_true rfl) (Nat.le_of_ble_eq_true rfl) (.push qL qN) ?_) | (refine kL 12 rfl ?_; first | refine A_append_nlsub rfl rfl _ _ 27 rfl ud27 inf65 rfl rfl rfl rfl (by (try simp only [List.length_map, List.length_append, List.length_cons, List.length_nil]); omega) qB qB List.map_drop.symm (.push qL qN) ?_) | refine uA ?_ | refine uS 24 (fun hb => ?_) (fun hb => ?_) | refine uS 58 (fun hb => ?_) (fun hb => ?_) | refine uS 62 (fun hb => ?_) (fun hb => ?_))) | refine uC ?_ | refine kcp rfl (fun hc => ?_) (fun hc => ?_) | refine kcn rfl (fun hc => ?_) (fun hc => ?_) | refine kcb rfl (fun hc => ?_) (fun hc => ?_) | refine kcc rfl (fun hc => ?_) (fun hc => ?_) | fail)
  all_goals first | (exfalso; omega) | ((first | exact Fin.q Try.results9 (.cons (.tmp rfl) .nil) [] | refine Fin.q Try.results9 (.cons (.tmp rfl) .nil) [] (hr := (.t ?_)) | refine Fin.mkv (rs := _) Try.results9 (.cons (.tmp rfl) .nil) [] (by decide) rfl ?_ ?_ ?_ <;> repeat' (skip; first | exact .nil | refine .cons rfl ?_ ?_ | refine .cons ?_ ?_ | refine .row ?_ | refine .rset ?_ | refine .box ?_ | exact .gone | refine .aggL ?_ | refine .tupL ?_ | refine .old rfl ?_ | refine .new rfl rfl rfl ?_ | exact .nl | exact .optr rfl | exact .nptr rfl rfl rfl | refine .t ?_ | exact .any _ | rfl)))
 ·have hff : fitM c l = true := by cases g : fitM c l; rw [fm_no g] at hf; cases hf; rfl
  obtain ⟨T, X, F⟩ := fm_of hff
  have hth := F.th
  have ht0 := F.t0
  have htop := F.top
  have hT : c.threads.toNat = T := by omega
  have hM : annM c l = ((List.range T).filter (annB c l)).map (annF c l) := by unfold annM; rw [hf, if_pos rfl, hT]
  rw [hf] at c1
  have h0 : Cd Try.prog 9 [aCf c, .ln (l.map tU)] (.sl 0 0 (annM c l).length) [.row 0 65 8 ((annM c l).map tOp)] := by
   rw [hM]
   refine Cd.enter' Try.func9 rfl Try.ntmps9 rfl ?_
   repeat' (first | ((with_reducible refine kAL ?_); (first | (refine kL 1802 rfl ?_; first | refine uK (c1) ?_) | (refine kL 879 rfl ?_; first | refine A_lit rfl rfl 27 1 _ rfl ud27 inf65 (.cons rfl .nil) (els := [[_, _, _, _, _, _, _, _]]) rfl (by first | exact qN) rfl (Nat.ne_of_beq_eq_false rfl) (Nat.le_of_ble_eq_true rfl) (Nat.le_of_ble_eq_true rfl) (.push qL qN) ?_) | (refine kL 12 rfl ?_; first | refine A_append_nlsub rfl rfl _ _ 27 rfl ud27 inf65 rfl rfl rfl rfl (by (try simp only [List.length_map, List.length_append, List.length_cons, List.length_nil]); omega) qB qB List.map_drop.symm (.push qL qN) ?_) | refine uA ?_ | refine uS 24 (fun hb => ?_) (fun hb => ?_) | refine uS 58 (fun hb => ?_) (fun hb => ?_) | refine uS 62 (fun hb => ?_) (fun hb => ?_))) | refine uC ?_ | refine kcp rfl (fun hc => ?_) (fun hc => ?_) | refine kcn rfl (fun hc => ?_) (fun hc => ?_) | refine kcb rfl (fun hc => ?_) (fun hc => ?_) | refine kcc rfl (fun hc => ?_) (fun hc => ?_) | fail)
   all_goals first | (exfalso; omega) | skip
   refine AW.wk (Wk.own 5 rfl 65 8 (.push rfl rfl)) ?_
   refine AW.loopP (fun (x : rannMS) => x.k ≤ T ∧ x.n = (((List.range x.k).filter (annB c l)).map (annF c l)).length) (fun (x : rannMS) => (pu (pu (pu (pu (pu (pu (pu (fun _ => .any) 1 (.ln (l.map tU))) 2 (.ptr 0 0)) 5 (.sl 2 x.v x.n)) 6 (.ptr 1 0)) 7 (fU (rootR c l))) 8 (bo true)) 9 (i64 x.k))) (fun (x : rannMS) => [.box 24 [i64 c.kind, i64 c.threads, i64 c.chans, i64 c.cap, i64 c.nodes, i64 c.retire, i64 c.patience, i64 c.tags, i64 c.seqs, i64 c.gens, .ln (c.start.map tI)], .box 55 [i64 (rootI c l), i64 (rootT c l)], .row x.v 65 8 ((((List.range x.k).filter (annB c l)).map (annF c l)).map tOp)]) (fun (x : rannMS) => T - x.k) (⟨0, 0, 0⟩) ?_ ?_ ?_
   ·exact ⟨Nat.zero_le _, rfl⟩
   ·exact Wk.cq 3
   ·rintro ⟨k, v, n⟩ ⟨hk, hn⟩
    dsimp only at hk hn ⊢
    have hnk := rng_len (annB c l) (annF c l) k
    by_cases hk2 : k < T
    ·have y1 := rng_yes (annB c l) (annF c l) k
     have y0 := rng_no (annB c l) (annF c l) k
     obtain ⟨e1, e2⟩ := F.args hk2
     obtain ⟨f1, f2⟩ := F.seq hk2
     have c2 := rseqL_c c k
     have c3 := rargsL_c c k
     rw [e1] at c3
     rw [f1] at c2
     obtain ⟨w1, w2, w3⟩ := u_at hU f2
     have c4 := rdone_o c hs (rootR c l) k (by omega)
     have db := doneL_b (c := c) rk1 k
     have c5 := rread_c (doneL c (rootR c l) k) db
     have sb := seq_b db
     have e5 : List.take (Int.toNat (((3 + T + k * 5 : Nat) : Int) + 5) - (3 + T + k * 5)) (l.drop (3 + T + k * 5)) = [l.getD (3 + T + k * 5) 0, l.getD (3 + T + k * 5 + 1) 0, l.getD (3 + T + k * 5 + 2) 0, l.getD (3 + T + k * 5 + 3) 0, l.getD (3 + T + k * 5 + 4) 0] := by rw [show Int.toNat (((3 + T + k * 5 : Nat) : Int) + 5) - (3 + T + k * 5) = 5 by omega]; exact five e2
     have a0 := (u_at hU (n := 3 + T + k * 5) (by omega)).2
     have a1 := (u_at hU (n := 3 + T + k * 5 + 1) (by omega)).2
     have a2 := (u_at hU (n := 3 + T + k * 5 + 2) (by omega)).2
     have a3 := (u_at hU (n := 3 + T + k * 5 + 3) (by omega)).2
     have a4 := (u_at hU (n := 3 + T + k * 5 + 4) (by omega)).2
     have c6 := rreadcall_c _ _ _ _ _ a0 a1 a2 a3 a4
     have hB : annB c l k = (mayC (l.getD (3 + T + k * 5) 0) (l.getD (3 + T + k * 5 + 1) 0) (l.getD (3 + T + k * 5 + 2) 0) (l.getD (3 + T + k * 5 + 3) 0) (l.getD (3 + T + k * 5 + 4) 0) && decide (l.getD (3 + k) 0 ≤ 1048575) && decide (l.getD (3 + k) 0 > (readR (doneL c (rootR c l) k)).seq)) := by unfold annB argW; rw [hT]; rfl
     have hfk : annF c l k = ⟨k, l.getD (3 + k) 0, l.getD (3 + T + k * 5 + 4) 0, reqR (l.getD (3 + T + k * 5) 0) (l.getD (3 + T + k * 5 + 1) 0) (l.getD (3 + T + k * 5 + 2) 0) (l.getD (3 + T + k * 5 + 3) 0)⟩ := by unfold annF argW; rw [hT]; rfl
     rw [hfk] at y1
     rw [← e5] at c6
     generalize l.getD (3 + T + k * 5) 0 = b0 at *
     generalize l.getD (3 + T + k * 5 + 1) 0 = b1 at *
     generalize l.getD (3 + T + k * 5 + 2) 0 = b2 at *
     generalize l.getD (3 + T + k * 5 + 3) 0 = b3 at *
     generalize l.getD (3 + T + k * 5 + 4) 0 = b4 at *
     generalize l.getD (3 + k) 0 = w at *
     generalize doneL c (rootR c l) k = dv at *
     unfold reqC phC at c6
     generalize hmc : mayC b0 b1 b2 b3 b4 = mc at *
     generalize reqR b0 b1 b2 b3 = rq at *
     generalize h3A : 3 + T + k * 5 = A0 at *
     generalize h3S : 3 + k = S0 at *
     generalize readR dv = rd at *
     obtain ⟨rd1, rd2, rd3, rd4⟩ := rd
     obtain ⟨q1, q2, q3, q4, q5⟩ := rq
     dsimp only [aR, fRq] at c5 c6 hB sb
     clear hfk e1 f1 e5 hmc a0 a1 a2 a3 db c1
     generalize ((List.range k).filter (annB c l)).map (annF c l) = Q at *
     have hL2 : (Q.map tOp).length = n := by rw [List.length_map, hn]
     cases hb2 : annB c l k
     ·have hs2 := y0 hb2
      rw [hb2] at hB
      cases mc
      ·simp only [Bool.false_eq_true, if_false] at c6
       clear hB
       repeat' (first | ((with_reducible refine kAL ?_); (first | (refine kL 874 rfl ?_; first | refine uK (c3) ?_) | (refine kL 1834 rfl ?_; first | refine uK (c6) ?_) | (refine kL 810 rfl ?_; first | refine uK (c2) ?_) | (refine kL 1898 rfl ?_; first | refine uK (c4) ?_) | (refine kL 1866 rfl ?_; first | refine uK (c5) ?_) | (refine kL 879 rfl ?_; first | refine A_lit rfl rfl 27 1 _ rfl ud27 inf65 (.cons rfl .nil) (els := [[_, _, _, _, _, _, _, _]]) rfl (by first | exact qN) rfl (Nat.ne_of_beq_eq_false rfl) (Nat.le_of_ble_eq_true rfl) (Nat.le_of_ble_eq_true rfl) (.push qL qN) ?_) | (refine kL 12 rfl ?_; first | refine A_append_nlsub rfl rfl _ _ 27 rfl ud27 inf65 rfl rfl rfl rfl (by (try simp only [List.length_map, List.length_append, List.length_cons, List.length_nil]); omega) qB qB List.map_drop.symm (.push qL qN) ?_) | refine uA ?_ | refine uS 24 (fun hb => ?_) (fun hb => ?_) | refine uS 58 (fun hb => ?_) (fun hb => ?_) | refine uS 62 (fun hb => ?_) (fun hb => ?_))) | refine uC ?_ | refine kcp rfl (fun hc => ?_) (fun hc => ?_) | refine kcn rfl (fun hc => ?_) (fun hc => ?_) | refine kcb rfl (fun hc => ?_) (fun hc => ?_) | refine kcc rfl (fun hc => ?_) (fun hc => ?_) | fail)
       all_goals first | (exfalso; omega) | skip
       refine ⟨⟨k + 1, v, n⟩, ⟨by dsimp only; omega, by dsimp only; rw [hs2, hn]⟩, by dsimp only; omega, ?_⟩
       dsimp only
       rw [hs2]
       exact Wk.cq 3
      simp only [if_true] at c6
      rw [Bool.true_and] at hB
      have hB2 : ¬ (w ≤ 1048575 ∧ w > rd1) := fun g => by rw [decide_eq_true g.1, decide_eq_true g.2] at hB; cases hB
      clear hB
      by_cases hw5 : w ≤ 1048575
      ·repeat' (first | ((with_reducible refine kAL ?_); (first | (refine kL 874 rfl ?_; first | refine uK (c3) ?_) | (refine kL 1834 rfl ?_; first | refine uK (c6) ?_) | (refine kL 810 rfl ?_; first | refine uK (c2) ?_) | (refine kL 1898 rfl ?_; first | refine uK (c4) ?_) | (refine kL 1866 rfl ?_; first | refine uK (c5) ?_) | (refine kL 879 rfl ?_; first | refine A_lit rfl rfl 27 1 _ rfl ud27 inf65 (.cons rfl .nil) (els := [[_, _, _, _, _, _, _, _]]) rfl (by first | exact qN) rfl (Nat.ne_of_beq_eq_false rfl) (Nat.le_of_ble_eq_true rfl) (Nat.le_of_ble_eq_true rfl) (.push qL qN) ?_) | (refine kL 12 rfl ?_; first | refine A_append_nlsub rfl rfl _ _ 27 rfl ud27 inf65 rfl rfl rfl rfl (by (try simp only [List.length_map, List.length_append, List.length_cons, List.length_nil]); omega) qB qB List.map_drop.symm (.push qL qN) ?_) | refine uA ?_ | refine uS 24 (fun hb => ?_) (fun hb => ?_) | refine uS 58 (fun hb => ?_) (fun hb => ?_) | refine uS 62 (fun hb => ?_) (fun hb => ?_))) | refine uC ?_ | refine kcp rfl (fun hc => ?_) (fun hc => ?_) | refine kcn rfl (fun hc => ?_) (fun hc => ?_) | refine kcb rfl (fun hc => ?_) (fun hc => ?_) | refine kcc rfl (fun hc => ?_) (fun hc => ?_) | fail)
       all_goals first | (exfalso; omega) | skip
       refine ⟨⟨k + 1, v, n⟩, ⟨by dsimp only; omega, by dsimp only; rw [hs2, hn]⟩, by dsimp only; omega, ?_⟩
       dsimp only
       rw [hs2]
       exact Wk.cq 3
      repeat' (first | ((with_reducible refine kAL ?_); (first | (refine kL 874 rfl ?_; first | refine uK (c3) ?_) | (refine kL 1834 rfl ?_; first | refine uK (c6) ?_) | (refine kL 810 rfl ?_; first | refine uK (c2) ?_) | (refine kL 1898 rfl ?_; first | refine uK (c4) ?_) | (refine kL 1866 rfl ?_; first | refine uK (c5) ?_) | (refine kL 879 rfl ?_; first | refine A_lit rfl rfl 27 1 _ rfl ud27 inf65 (.cons rfl .nil) (els := [[_, _, _, _, _, _, _, _]]) rfl (by first | exact qN) rfl (Nat.ne_of_beq_eq_false rfl) (Nat.le_of_ble_eq_true rfl) (Nat.le_of_ble_eq_true rfl) (.push qL qN) ?_) | (refine kL 12 rfl ?_; first | refine A_append_nlsub rfl rfl _ _ 27 rfl ud27 inf65 rfl rfl rfl rfl (by (try simp only [List.length_map, List.length_append, List.length_cons, List.length_nil]); omega) qB qB List.map_drop.symm (.push qL qN) ?_) | refine uA ?_ | refine uS 24 (fun hb => ?_) (fun hb => ?_) | refine uS 58 (fun hb => ?_) (fun hb => ?_) | refine uS 62 (fun hb => ?_) (fun hb => ?_))) | refine uC ?_ | refine kcp rfl (fun hc => ?_) (fun hc => ?_) | refine kcn rfl (fun hc => ?_) (fun hc => ?_) | refine kcb rfl (fun hc => ?_) (fun hc => ?_) | refine kcc rfl (fun hc => ?_) (fun hc => ?_) | fail)
      all_goals first | (exfalso; omega) | skip
      refine ⟨⟨k + 1, v, n⟩, ⟨by dsimp only; omega, by dsimp only; rw [hs2, hn]⟩, by dsimp only; omega, ?_⟩
      dsimp only
      rw [hs2]
      exact Wk.cq 3
     ·have hs2 := y1 hb2
      rw [hb2] at hB
      simp only [Bool.true_eq, Bool.and_eq_true, decide_eq_true_eq] at hB
      obtain ⟨⟨m1, m2⟩, m3⟩ := hB
      subst m1
      simp only [if_true] at c6
      repeat' (first | ((with_reducible refine kAL ?_); (first | (refine kL 874 rfl ?_; first | refine uK (c3) ?_) | (refine kL 1834 rfl ?_; first | refine uK (c6) ?_) | (refine kL 810 rfl ?_; first | refine uK (c2) ?_) | (refine kL 1898 rfl ?_; first | refine uK (c4) ?_) | (refine kL 1866 rfl ?_; first | refine uK (c5) ?_) | (refine kL 879 rfl ?_; first | refine A_lit rfl rfl 27 1 _ rfl ud27 inf65 (.cons rfl .nil) (els := [[_, _, _, _, _, _, _, _]]) rfl (by first | exact (rfl : _ = List.map tOp [⟨_, _, _, ⟨_, _, _, _, _⟩⟩]) | exact qN) rfl (Nat.ne_of_beq_eq_false rfl) (Nat.le_of_ble_eq_true rfl) (Nat.le_of_ble_eq_true rfl) (.push qL qN) ?_) | (refine kL 12 rfl ?_; first | refine A_append_nlsub rfl rfl _ _ 27 rfl ud27 inf65 rfl rfl rfl rfl (by (try simp only [List.length_map, List.length_append, List.length_cons, List.length_nil]); omega) qB qB List.map_drop.symm (.push qL qN) ?_) | refine uA ?_ | refine uS 24 (fun hb => ?_) (fun hb => ?_) | refine uS 58 (fun hb => ?_) (fun hb => ?_) | refine uS 62 (fun hb => ?_) (fun hb => ?_))) | refine uC ?_ | refine kcp rfl (fun hc => ?_) (fun hc => ?_) | refine kcn rfl (fun hc => ?_) (fun hc => ?_) | refine kcb rfl (fun hc => ?_) (fun hc => ?_) | refine kcc rfl (fun hc => ?_) (fun hc => ?_) | fail)
      all_goals first | (exfalso; omega) | skip
      refine ⟨⟨k + 1, v + 1, n + 1⟩, ⟨by dsimp only; omega, by dsimp only; rw [hs2, List.length_append, hn]; rfl⟩, by dsimp only; omega, ?_⟩
      dsimp only
      rw [hs2]
      exact Wk.cq 3
    ·have e : k = T := by omega
     rw [e] at hn ⊢
     rw [← hn]
     repeat' (first | ((with_reducible refine kAL ?_); (first | (refine kL 879 rfl ?_; first | refine A_lit rfl rfl 27 1 _ rfl ud27 inf65 (.cons rfl .nil) (els := [[_, _, _, _, _, _, _, _]]) rfl (by first | exact qN) rfl (Nat.ne_of_beq_eq_false rfl) (Nat.le_of_ble_eq_true rfl) (Nat.le_of_ble_eq_true rfl) (.push qL qN) ?_) | (refine kL 12 rfl ?_; first | refine A_append_nlsub rfl rfl _ _ 27 rfl ud27 inf65 rfl rfl rfl rfl (by (try simp only [List.length_map, List.length_append, List.length_cons, List.length_nil]); omega) qB qB List.map_drop.symm (.push qL qN) ?_) | refine uA ?_ | refine uS 24 (fun hb => ?_) (fun hb => ?_) | refine uS 58 (fun hb => ?_) (fun hb => ?_) | refine uS 62 (fun hb => ?_) (fun hb => ?_))) | refine uC ?_ | refine kcp rfl (fun hc => ?_) (fun hc => ?_) | refine kcn rfl (fun hc => ?_) (fun hc => ?_) | refine kcb rfl (fun hc => ?_) (fun hc => ?_) | refine kcc rfl (fun hc => ?_) (fun hc => ?_) | fail)
     all_goals first | (exfalso; omega) | ((first | exact Fin.q Try.results9 (.cons (.tmp rfl) .nil) [2] | refine Fin.q Try.results9 (.cons (.tmp rfl) .nil) [2] (hr := (.t ?_)) | refine Fin.mkv (rs := _) Try.results9 (.cons (.tmp rfl) .nil) [2] (by decide) rfl ?_ ?_ ?_ <;> repeat' (skip; first | exact .nil | refine .cons rfl ?_ ?_ | refine .cons ?_ ?_ | refine .row ?_ | refine .rset ?_ | refine .box ?_ | exact .gone | refine .aggL ?_ | refine .tupL ?_ | refine .old rfl ?_ | refine .new rfl rfl rfl ?_ | exact .nl | exact .optr rfl | exact .nptr rfl rfl rfl | refine .t ?_ | exact .any _ | rfl)))
  generalize annM c l = Q at *
  have h0' := Cd.frz1 h0 0 rfl (by repeat' (first | exact FzL.nil | apply FzL.cons | exact FzR.nlt | exact FzR.all (by first | rfl | (simp <;> fail) | (simp; omega)) | exact FzR.sl (by first | exact Nat.le_refl _ | (simp <;> fail) | (simp; omega)) | apply FzR.aggL | exact FzR.same _)) rfl; exact Cd.drop h0' rfl
end
end Go.Proofs.Ytnfbggpkiekpdaa
