/- Joined: XTPRefs, XTPOps, XTLaw31. -/
import Derived.Test.YtnfbggpkiekpdaaKR15h
import Derived.Test.YtnfbggpkiekpdaaKR15e
import Derived.Test.YtnfbggpkiekpdaaKR15d
import Derived.Test.YtnfbggpkiekpdaaKR15k
import Derived.Test.YtnfbggpkiekpdaaKR15za
import Derived.Test.YtnfbggpkiekpdaaKR15s
namespace Go.Proofs.Ytnfbggpkiekpdaa
open Go.RowKit
set_option linter.unusedVariables false
set_option linter.unusedSimpArgs false
set_option linter.unnecessarySimpa false
set_option maxRecDepth 100000
set_option maxHeartbeats 64000000
section
attribute [local irreducible] AL AW RG Fin C Cd Cio thenQ blockQ retQ
set_option maxRecDepth 100000
theorem refs_same (a : List DRef) (ha : a.length ≤ 1152921504606846976) : Cd Try.prog 10 [.ln (a.map tRf), .ln (a.map tRf)] (bo true) [] := by
 have h1 : (a.map tRf).length = a.length := List.length_map _
 refine Cd.enter' Try.func10 rfl Try.ntmps10 rfl ?_
 repeat' (first | refine uA ?_ | ((with_reducible refine kRG ?_); (first | (refine kR 1769 rfl ?_; first | refine R_nes rfl rfl 55 55 _ _ rfl rfl rfl (by kernel_rfl) (fun w => eqs55 9998 _ _ _ _ w) (by first | exact not_dec_true (by first | (simp only [and_true]; omega) | (simp only [and_true]; done) | omega) | exact not_dec_false (by first | (simp only [and_true]; omega) | (simp only [and_true]; done) | omega) | rfl) ?_) | refine uR ?_)) | refine uC ?_ | refine kcp rfl (fun hc => ?_) (fun hc => ?_) | refine kcn rfl (fun hc => ?_) (fun hc => ?_) | refine kcb rfl (fun hc => ?_) (fun hc => ?_) | refine kcc rfl (fun hc => ?_) (fun hc => ?_) | refine AW.drawU (id := 6) mixed 0 qR ?_ | fail)
 all_goals first | (exfalso; omega) | skip
 refine AW.loopP (fun (j : Nat) => j ≤ a.length) (fun (j : Nat) => (pu (pu (pu (pu (pu (fun _ => .any) 0 (.ln (a.map tRf))) 1 (.ln (a.map tRf))) 4 (bo false)) 12 (i64 (a.map tRf).length)) 13 (i64 j))) (fun (j : Nat) => []) (fun (j : Nat) => a.length - j) (0) ?_ ?_ ?_
 ·exact Nat.zero_le _
 ·exact Wk.cq 0
 ·intro j hj
  by_cases hq : j < a.length
  ·obtain ⟨o, hoo⟩ : ∃ o, a[j]? = some o := ⟨_, List.getElem?_eq_getElem hq⟩
   repeat' (first | refine uA ?_ | ((with_reducible refine kRG ?_); (first | (refine kR 1769 rfl ?_; first | refine R_nes rfl rfl 55 55 _ _ rfl rfl rfl (by kernel_rfl) (fun w => eqs55 9998 _ _ _ _ w) (by first | exact not_dec_true (by first | (simp only [and_true]; omega) | (simp only [and_true]; done) | omega) | exact not_dec_false (by first | (simp only [and_true]; omega) | (simp only [and_true]; done) | omega) | rfl) ?_) | refine uR ?_)) | refine uC ?_ | refine kcp rfl (fun hc => ?_) (fun hc => ?_) | refine kcn rfl (fun hc => ?_) (fun hc => ?_) | refine kcb rfl (fun hc => ?_) (fun hc => ?_) | refine kcc rfl (fun hc => ?_) (fun hc => ?_) | refine AW.drawU (id := 6) mixed 0 qR ?_ | fail)
   all_goals first | (exfalso; omega) | skip
   refine ⟨j + 1, by omega, by omega, ?_⟩
   exact Wk.cq 0
  ·repeat' (first | refine uA ?_ | ((with_reducible refine kRG ?_); (first | (refine kR 1769 rfl ?_; first | refine R_nes rfl rfl 55 55 _ _ rfl rfl rfl (by kernel_rfl) (fun w => eqs55 9998 _ _ _ _ w) (by first | exact not_dec_true (by first | (simp only [and_true]; omega) | (simp only [and_true]; done) | omega) | exact not_dec_false (by first | (simp only [and_true]; omega) | (simp only [and_true]; done) | omega) | rfl) ?_) | refine uR ?_)) | refine uC ?_ | refine kcp rfl (fun hc => ?_) (fun hc => ?_) | refine kcn rfl (fun hc => ?_) (fun hc => ?_) | refine kcb rfl (fun hc => ?_) (fun hc => ?_) | refine kcc rfl (fun hc => ?_) (fun hc => ?_) | refine AW.drawU (id := 6) mixed 0 qR ?_ | fail)
   all_goals first | (exfalso; omega) | ((first | exact Fin.q Try.results10 (.cons (.tmp rfl) .nil) [] | refine Fin.q Try.results10 (.cons (.tmp rfl) .nil) [] (hr := (.t ?_)) | refine Fin.mkv (rs := _) Try.results10 (.cons (.tmp rfl) .nil) [] (by decide) rfl ?_ ?_ ?_ <;> repeat' (skip; first | exact .nil | refine .cons rfl ?_ ?_ | refine .cons ?_ ?_ | refine .row ?_ | refine .rset ?_ | refine .box ?_ | exact .gone | refine .aggL ?_ | refine .tupL ?_ | refine .old rfl ?_ | refine .new rfl rfl rfl ?_ | exact .nl | exact .optr rfl | exact .nptr rfl rfl rfl | refine .t ?_ | exact .any _ | rfl)))
end
section
attribute [local irreducible] AL AW RG Fin C Cd Cio thenQ blockQ retQ
set_option maxRecDepth 100000
theorem reqS_c (k a v : Int) (d : Bool) (cs : List DCase) (hl : cs.length ≤ 1152921504606846976) :
  Cd Try.prog 51 [.agg [i64 k, i64 a, i64 v, bo d, .ln (cs.map tCs)], .agg [i64 k, i64 a, i64 v, bo d, .ln (cs.map tCs)]] (bo true) [] := by
 have cC := cases_c cs cs hl
 rw [decide_eq_true rfl] at cC
 cases d
 all_goals
  refine Cd.enter' Try.func51 rfl Try.ntmps51 rfl ?_
  repeat' (first | ((with_reducible refine kAL ?_); (first | (refine kL 2730 rfl ?_; first | refine uK (cC) ?_) | refine uA ?_)) | refine uC ?_ | fail)
  all_goals first | (exfalso; omega) | (exact Fin.q Try.results51 (.cons (.tmp rfl) .nil) [])
theorem opsS_c (a : List DOp) (ha : a.length ≤ 1152921504606846976) (hc : ∀ x ∈ a, x.req.cases.length ≤ 1152921504606846976) : Cd Try.prog 7 [.ln (a.map tOp), .ln (a.map tOp)] (bo true) [] := by
 have h1 : (a.map tOp).length = a.length := List.length_map _
 refine Cd.enter' Try.func7 rfl Try.ntmps7 rfl ?_
 repeat' (first | refine uA ?_ | refine uC ?_ | fail)
 all_goals first | (exfalso; omega) | skip
 refine AW.loopP (fun (i : Nat) => i ≤ a.length) (fun (i : Nat) => (pu (pu (pu (pu (fun _ => .any) 0 (.ln (a.map tOp))) 1 (.ln (a.map tOp))) 12 (i64 (a.map tOp).length)) 13 (i64 i))) (fun (i : Nat) => []) (fun (i : Nat) => a.length - i) (0) ?_ ?_ ?_
 ·exact Nat.zero_le _
 ·exact Wk.cq 0
 ·intro i h2
  by_cases hi : i < a.length
  ·obtain ⟨x, hx⟩ : ∃ x, a[i]? = some x := ⟨_, List.getElem?_eq_getElem hi⟩
   have cR := reqS_c x.req.kind x.req.arg x.req.value x.req.dflt x.req.cases (hc x (List.mem_of_getElem? hx))
   obtain ⟨t, s, p, ⟨k, ar, v, d, cs⟩⟩ := x
   repeat' (first | refine uA ?_ | ((with_reducible refine kRG ?_); (first | (refine kR 1642 rfl ?_; first | refine uQ (cR) 0 ?_) | refine uR ?_)) | refine uC ?_ | refine AW.drawU (id := 6) mixed 2 qR ?_ | fail)
   all_goals first | (exfalso; omega) | skip
   refine ⟨i + 1, by omega, by omega, ?_⟩
   exact Wk.cq 0
  ·obtain rfl : i = a.length := by omega
   repeat' (first | refine uA ?_ | refine uC ?_ | fail)
   all_goals first | (exfalso; omega) | (exact Fin.q Try.results7 (.cons (.tmp rfl) .nil) [])
end
section
attribute [local irreducible] AL AW RG Fin C Cd Cio thenQ blockQ retQ
set_option maxRecDepth 100000
def c31 : DConf := ⟨1, 2, 0, 1, 2, 1, 0, 9, 9, 0, []⟩
theorem su31 : Su c31 46 21 := ⟨by decide +kernel, by decide +kernel, by decide +kernel, by decide +kernel, by decide +kernel, by decide, by decide +kernel, by decide⟩
theorem u31 : okU (setupL c31) := by unfold okU; decide +kernel
theorem used31 : usedM c31 (setupL c31) = [0] := by decide +kernel
theorem ep31 : epM c31 (setupL c31) = [-1, -1] := by decide +kernel
theorem ann31 : annM c31 (setupL c31) = [] := by decide +kernel
theorem late31 : lateM c31 (setupL c31) = [] := by decide +kernel
theorem ok31 : rOkM c31 (setupL c31) = true := by decide +kernel
theorem ri31 : rootI c31 (setupL c31) = 0 := by decide +kernel
theorem rt31 : rootT c31 (setupL c31) = 1 := by decide +kernel
theorem rr31 : (rootR c31 (setupL c31)).length = 4 := by decide +kernel
theorem ints31_s (l : List Int) (h : l.length ≤ 1152921504606846976) : Cd Try.prog 13 [.ln (l.map tI), .ln (l.map tI)] (bo true) [] := by
 have h0 := ints_c l l h
 rw [decide_eq_true rfl] at h0
 exact h0
theorem results31_s (l : List Rst) (h : l.length ≤ 1152921504606846976) : Cd Try.prog 16 [.ln (l.map tR), .ln (l.map tR)] (bo true) [] := by
 have h0 := results_c l l h
 rw [decide_eq_true rfl] at h0
 exact h0
theorem small31_c : Cd Try.prog 67 [] (.agg [i64 1, i64 2, i64 0, i64 1, i64 2, i64 1, i64 0, i64 9, i64 9, i64 0, .t (.lst [])]) [] := by
 refine Cd.enter' Try.func67 rfl Try.ntmps67 rfl ?_
 repeat' (first | ((with_reducible refine kAL ?_); (first | (refine kL 782 rfl ?_; first | (refine zkD 1 rfl ?_; refine uA ?_; (try refine uz 1 ?_))) | refine uA ?_)) | refine uC ?_ | refine kcp rfl (fun hc => ?_) (fun hc => ?_) | refine kcn rfl (fun hc => ?_) (fun hc => ?_) | refine kcb rfl (fun hc => ?_) (fun hc => ?_) | refine kcc rfl (fun hc => ?_) (fun hc => ?_) | fail)
 all_goals first | (exfalso; omega) | ((first | exact Fin.q Try.results67 (.cons (.agg rfl rfl ud24 rfl inf24 (us := [_, _, _, _, _, _, _, _, _, _, _]) rfl rfl) .nil) [] | refine Fin.q Try.results67 (.cons (.agg rfl rfl ud24 rfl inf24 (us := [_, _, _, _, _, _, _, _, _, _, _]) rfl rfl) .nil) [] (hr := (.t ?_)) | refine Fin.mkv (rs := _) Try.results67 (.cons (.agg rfl rfl ud24 rfl inf24 (us := [_, _, _, _, _, _, _, _, _, _, _]) rfl rfl) .nil) [] (by decide) rfl ?_ ?_ ?_ <;> repeat' (skip; first | exact .nil | refine .cons rfl ?_ ?_ | refine .cons ?_ ?_ | refine .row ?_ | refine .rset ?_ | refine .box ?_ | exact .gone | refine .aggL ?_ | refine .tupL ?_ | refine .old rfl ?_ | refine .new rfl rfl rfl ?_ | exact .nl | exact .optr rfl | exact .nptr rfl rfl rfl | refine .t ?_ | exact .any _ | rfl)))
theorem awake31_c : Cd Try.prog 21 [] (bo true) [] := by
 have c0 := small31_c
 have c1 := rwords_c c31 (by decide) 46 21 su31
 have c2 := iroot_c c31 (by decide) (setupL c31) u31
 have c3 := iusedM_c c31 (by decide) (setupL c31) u31
 have c4 := iepM_c c31 (by decide) (setupL c31) u31
 have c5 := iannM_c c31 (by decide) (setupL c31) u31
 have c6 := ilateM_c c31 (by decide) (setupL c31) u31
 have e4 : ((rootR c31 (setupL c31)).map tU).length = 4 := by rw [List.length_map, rr31]
 rw [ok31, ri31, rt31] at c2
 rw [used31] at c3
 rw [ep31] at c4
 rw [ann31] at c5
 rw [late31] at c6
 have i1 := ints31_s [0] (by decide)
 have i2 := ints31_s [-1, -1] (by decide)
 generalize rootR c31 (setupL c31) = rc at *
 generalize setupL c31 = l at *
 dsimp only [fCf, aCf, c31] at c1 c2 c3 c4 c5 c6
 refine Cd.enter' Try.func21 rfl Try.ntmps21 rfl ?_
 repeat' (first | ((with_reducible refine kAL ?_); (first | (refine kL 2154 rfl ?_; first | refine uK (c0) ?_) | (refine kL 1450 rfl ?_; first | refine uK (c1) ?_) | (refine kL 1674 rfl ?_; first | refine uK (c2) ?_) | (refine kL 1769 rfl ?_; first | refine A_eqs rfl rfl 55 55 _ _ rfl rfl rfl (by kernel_rfl) (fun w => eqs55 9998 _ _ _ _ w) (by first | exact decide_eq_true (by first | (simp only [and_true]; omega) | (simp only [and_true]; done) | omega) | exact decide_eq_false (by first | (simp only [and_true]; omega) | (simp only [and_true]; done) | omega) | rfl) ?_) | (refine kL 2186 rfl ?_; first | refine uK (c3) ?_) | (refine kL 719 rfl ?_; first | refine A_lit rfl rfl 22 1 _ rfl ud22 inf3 (.cons rfl .nil) (els := [[_]]) rfl (by first | exact qN) rfl (Nat.ne_of_beq_eq_false rfl) (Nat.le_of_ble_eq_true rfl) (Nat.le_of_ble_eq_true rfl) (.push qL qN) ?_ | refine A_lit rfl rfl 22 2 _ rfl ud22 inf3 (.cons rfl (.cons rfl .nil)) (els := [[_], [_]]) rfl (by first | exact qN) rfl (Nat.ne_of_beq_eq_false rfl) (Nat.le_of_ble_eq_true rfl) (Nat.le_of_ble_eq_true rfl) (.push qL qN) ?_) | (refine kL 426 rfl ?_; first | refine uK (i1) ?_ | refine uK (i2) ?_) | (refine kL 458 rfl ?_; first | refine uK (c4) ?_) | (refine kL 266 rfl ?_; first | refine uK (c5) ?_) | (refine kL 618 rfl ?_; first | refine uK (c6) ?_) | refine uA ?_ | refine uS 17 (fun hb => ?_) (fun hb => ?_) | refine uS 22 (fun hb => ?_) (fun hb => ?_) | refine uS 27 (fun hb => ?_) (fun hb => ?_) | refine uS 34 (fun hb => ?_) (fun hb => ?_) | refine uS 41 (fun hb => ?_) (fun hb => ?_) | refine uS 48 (fun hb => ?_) (fun hb => ?_))) | refine uC ?_ | refine kcp rfl (fun hc => ?_) (fun hc => ?_) | refine kcn rfl (fun hc => ?_) (fun hc => ?_) | refine kcb rfl (fun hc => ?_) (fun hc => ?_) | refine kcc rfl (fun hc => ?_) (fun hc => ?_) | fail)
 all_goals first | (exfalso; omega) | ((first | exact Fin.q Try.results21 (.cons (.tmp rfl) .nil) [] | refine Fin.q Try.results21 (.cons (.tmp rfl) .nil) [] (hr := (.t ?_)) | refine Fin.mkv (rs := _) Try.results21 (.cons (.tmp rfl) .nil) [] (by decide) rfl ?_ ?_ ?_ <;> repeat' (skip; first | exact .nil | refine .cons rfl ?_ ?_ | refine .cons ?_ ?_ | refine .row ?_ | refine .rset ?_ | refine .box ?_ | exact .gone | refine .aggL ?_ | refine .tupL ?_ | refine .old rfl ?_ | refine .new rfl rfl rfl ?_ | exact .nl | exact .optr rfl | exact .nptr rfl rfl rfl | refine .t ?_ | exact .any _ | rfl)))
theorem maps_len {c : DConf} {l : List Int} (h : l.length ≤ 1152921504606846976) : (hazM c l).length ≤ 64 ∧ (epM c l).length ≤ 64 ∧ (mailM c l).length ≤ 64 ∧ (lateM c l).length ≤ 64 ∧ (annM c l).length ≤ 64 := by
 have hT : fitM c l = true → c.threads.toNat ≤ 64 := fun h => by obtain ⟨T, X, F⟩ := fm_of h; have := F.th; have := F.t0; omega
 have hr : rOkM c l = true → fitM c l = true := fun h => by cases g : fitM c l; rw [fm_no g] at h; cases h; rfl
 refine ⟨?_, ?_, ?_, ?_, ?_⟩
 ·unfold hazM; split
  ·rename_i g; rw [List.length_map, List.length_range]; exact hT g
  ·exact Nat.zero_le _
 ·unfold epM; split
  ·rename_i g; rw [List.length_map, List.length_range]; exact hT g
  ·exact Nat.zero_le _
 ·unfold mailM; split
  ·rename_i g; rw [List.length_map, List.length_range]; exact hT g
  ·exact Nat.zero_le _
 ·unfold lateM; split
  ·rename_i g; exact Nat.le_trans (rng_len _ _ _) (hT (hr g))
  ·exact Nat.zero_le _
 ·unfold annM; split
  ·rename_i g; exact Nat.le_trans (rng_len _ _ _) (hT (hr g))
  ·exact Nat.zero_le _
theorem ann_cases {c : DConf} {l : List Int} : ∀ x ∈ annM c l, x.req.cases.length ≤ 3 := by
 intro x hx
 unfold annM at hx
 split at hx
 ·obtain ⟨t, _, rfl⟩ := List.mem_map.1 hx
  exact reqR_len _ _ _ _
 ·cases hx
theorem inspectThreads_c (c : DConf) (l : List Int) (hs : c.start.length ≤ 1152921504606846976) (hU : okU l) (hl : l.length ≤ 1152921504606846976) : Cd Try.prog 3 [fCf c, fU l] (bo true) [] := by
 obtain ⟨m1, m2, m3, m4, m5⟩ := maps_len (c := c) hl
 have a1 := iannM_c c hs l hU
 have a2 := rannM_c c hs l hU
 have a3 := opsS_c (annM c l) (by omega) (fun x hx => by have := ann_cases x hx; omega)
 have b1 := ihazM_c c hs l hU
 have b2 := rhazM_c c hs l hU
 have b3 := refs_same (hazM c l) (by omega)
 have d1 := iepM_c c hs l hU
 have d2 := repM_c c hs l hU
 have d3 := ints31_s (epM c l) (by omega)
 have e1 := imailM_c c hs l hU
 have e2 := rmailM_c c hs l hU
 have e3 := results31_s (mailM c l) (by omega)
 have f1 := ilateM_c c hs l hU
 have f2 := rlateM_c c hs l hU
 have f3 := ints31_s (lateM c l) (by omega)
 have cA := awake31_c
 generalize annM c l = A1 at *
 generalize hazM c l = A2 at *
 generalize epM c l = A3 at *
 generalize mailM c l = A4 at *
 generalize lateM c l = A5 at *
 refine Cd.enter' Try.func3 rfl Try.ntmps3 rfl ?_
 repeat' (first | refine uA ?_ | ((with_reducible refine kRG ?_); (first | (refine kR 266 rfl ?_; first | (first | refine uQ (a1) 0 ?_ | refine uQ (a1) 1 ?_ | refine uQ (a1) 2 ?_ | refine uQ (a1) 3 ?_ | refine uQ (a1) 4 ?_ | refine uQ (a1) 5 ?_ | refine uQ (a1) 6 ?_ | refine uQ (a1) 7 ?_ | refine uQ (a1) 8 ?_ | refine uQ (a1) 9 ?_ | refine uQ (a1) 10 ?_ | refine uQ (a1) 11 ?_ | refine uQ (a1) 12 ?_ | refine uQ (a1) 13 ?_)) | (refine kR 298 rfl ?_; first | (first | refine uQ (a2) 0 ?_ | refine uQ (a2) 1 ?_ | refine uQ (a2) 2 ?_ | refine uQ (a2) 3 ?_ | refine uQ (a2) 4 ?_ | refine uQ (a2) 5 ?_ | refine uQ (a2) 6 ?_ | refine uQ (a2) 7 ?_ | refine uQ (a2) 8 ?_ | refine uQ (a2) 9 ?_ | refine uQ (a2) 10 ?_ | refine uQ (a2) 11 ?_ | refine uQ (a2) 12 ?_ | refine uQ (a2) 13 ?_)) | (refine kR 234 rfl ?_; first | (first | refine uQ (a3) 0 ?_ | refine uQ (a3) 1 ?_ | refine uQ (a3) 2 ?_ | refine uQ (a3) 3 ?_ | refine uQ (a3) 4 ?_ | refine uQ (a3) 5 ?_ | refine uQ (a3) 6 ?_ | refine uQ (a3) 7 ?_ | refine uQ (a3) 8 ?_ | refine uQ (a3) 9 ?_ | refine uQ (a3) 10 ?_ | refine uQ (a3) 11 ?_ | refine uQ (a3) 12 ?_ | refine uQ (a3) 13 ?_)) | (refine kR 362 rfl ?_; first | (first | refine uQ (b1) 0 ?_ | refine uQ (b1) 1 ?_ | refine uQ (b1) 2 ?_ | refine uQ (b1) 3 ?_ | refine uQ (b1) 4 ?_ | refine uQ (b1) 5 ?_ | refine uQ (b1) 6 ?_ | refine uQ (b1) 7 ?_ | refine uQ (b1) 8 ?_ | refine uQ (b1) 9 ?_ | refine uQ (b1) 10 ?_ | refine uQ (b1) 11 ?_ | refine uQ (b1) 12 ?_ | refine uQ (b1) 13 ?_)) | (refine kR 394 rfl ?_; first | (first | refine uQ (b2) 0 ?_ | refine uQ (b2) 1 ?_ | refine uQ (b2) 2 ?_ | refine uQ (b2) 3 ?_ | refine uQ (b2) 4 ?_ | refine uQ (b2) 5 ?_ | refine uQ (b2) 6 ?_ | refine uQ (b2) 7 ?_ | refine uQ (b2) 8 ?_ | refine uQ (b2) 9 ?_ | refine uQ (b2) 10 ?_ | refine uQ (b2) 11 ?_ | refine uQ (b2) 12 ?_ | refine uQ (b2) 13 ?_)) | (refine kR 330 rfl ?_; first | (first | refine uQ (b3) 0 ?_ | refine uQ (b3) 1 ?_ | refine uQ (b3) 2 ?_ | refine uQ (b3) 3 ?_ | refine uQ (b3) 4 ?_ | refine uQ (b3) 5 ?_ | refine uQ (b3) 6 ?_ | refine uQ (b3) 7 ?_ | refine uQ (b3) 8 ?_ | refine uQ (b3) 9 ?_ | refine uQ (b3) 10 ?_ | refine uQ (b3) 11 ?_ | refine uQ (b3) 12 ?_ | refine uQ (b3) 13 ?_)) | (refine kR 458 rfl ?_; first | (first | refine uQ (d1) 0 ?_ | refine uQ (d1) 1 ?_ | refine uQ (d1) 2 ?_ | refine uQ (d1) 3 ?_ | refine uQ (d1) 4 ?_ | refine uQ (d1) 5 ?_ | refine uQ (d1) 6 ?_ | refine uQ (d1) 7 ?_ | refine uQ (d1) 8 ?_ | refine uQ (d1) 9 ?_ | refine uQ (d1) 10 ?_ | refine uQ (d1) 11 ?_ | refine uQ (d1) 12 ?_ | refine uQ (d1) 13 ?_)) | (refine kR 490 rfl ?_; first | (first | refine uQ (d2) 0 ?_ | refine uQ (d2) 1 ?_ | refine uQ (d2) 2 ?_ | refine uQ (d2) 3 ?_ | refine uQ (d2) 4 ?_ | refine uQ (d2) 5 ?_ | refine uQ (d2) 6 ?_ | refine uQ (d2) 7 ?_ | refine uQ (d2) 8 ?_ | refine uQ (d2) 9 ?_ | refine uQ (d2) 10 ?_ | refine uQ (d2) 11 ?_ | refine uQ (d2) 12 ?_ | refine uQ (d2) 13 ?_)) | (refine kR 426 rfl ?_; first | (first | refine uQ (d3) 0 ?_ | refine uQ (d3) 1 ?_ | refine uQ (d3) 2 ?_ | refine uQ (d3) 3 ?_ | refine uQ (d3) 4 ?_ | refine uQ (d3) 5 ?_ | refine uQ (d3) 6 ?_ | refine uQ (d3) 7 ?_ | refine uQ (d3) 8 ?_ | refine uQ (d3) 9 ?_ | refine uQ (d3) 10 ?_ | refine uQ (d3) 11 ?_ | refine uQ (d3) 12 ?_ | refine uQ (d3) 13 ?_) | (first | refine uQ (f3) 0 ?_ | refine uQ (f3) 1 ?_ | refine uQ (f3) 2 ?_ | refine uQ (f3) 3 ?_ | refine uQ (f3) 4 ?_ | refine uQ (f3) 5 ?_ | refine uQ (f3) 6 ?_ | refine uQ (f3) 7 ?_ | refine uQ (f3) 8 ?_ | refine uQ (f3) 9 ?_ | refine uQ (f3) 10 ?_ | refine uQ (f3) 11 ?_ | refine uQ (f3) 12 ?_ | refine uQ (f3) 13 ?_)) | (refine kR 554 rfl ?_; first | (first | refine uQ (e1) 0 ?_ | refine uQ (e1) 1 ?_ | refine uQ (e1) 2 ?_ | refine uQ (e1) 3 ?_ | refine uQ (e1) 4 ?_ | refine uQ (e1) 5 ?_ | refine uQ (e1) 6 ?_ | refine uQ (e1) 7 ?_ | refine uQ (e1) 8 ?_ | refine uQ (e1) 9 ?_ | refine uQ (e1) 10 ?_ | refine uQ (e1) 11 ?_ | refine uQ (e1) 12 ?_ | refine uQ (e1) 13 ?_)) | (refine kR 586 rfl ?_; first | (first | refine uQ (e2) 0 ?_ | refine uQ (e2) 1 ?_ | refine uQ (e2) 2 ?_ | refine uQ (e2) 3 ?_ | refine uQ (e2) 4 ?_ | refine uQ (e2) 5 ?_ | refine uQ (e2) 6 ?_ | refine uQ (e2) 7 ?_ | refine uQ (e2) 8 ?_ | refine uQ (e2) 9 ?_ | refine uQ (e2) 10 ?_ | refine uQ (e2) 11 ?_ | refine uQ (e2) 12 ?_ | refine uQ (e2) 13 ?_)) | (refine kR 522 rfl ?_; first | (first | refine uQ (e3) 0 ?_ | refine uQ (e3) 1 ?_ | refine uQ (e3) 2 ?_ | refine uQ (e3) 3 ?_ | refine uQ (e3) 4 ?_ | refine uQ (e3) 5 ?_ | refine uQ (e3) 6 ?_ | refine uQ (e3) 7 ?_ | refine uQ (e3) 8 ?_ | refine uQ (e3) 9 ?_ | refine uQ (e3) 10 ?_ | refine uQ (e3) 11 ?_ | refine uQ (e3) 12 ?_ | refine uQ (e3) 13 ?_)) | (refine kR 618 rfl ?_; first | (first | refine uQ (f1) 0 ?_ | refine uQ (f1) 1 ?_ | refine uQ (f1) 2 ?_ | refine uQ (f1) 3 ?_ | refine uQ (f1) 4 ?_ | refine uQ (f1) 5 ?_ | refine uQ (f1) 6 ?_ | refine uQ (f1) 7 ?_ | refine uQ (f1) 8 ?_ | refine uQ (f1) 9 ?_ | refine uQ (f1) 10 ?_ | refine uQ (f1) 11 ?_ | refine uQ (f1) 12 ?_ | refine uQ (f1) 13 ?_)) | (refine kR 650 rfl ?_; first | (first | refine uQ (f2) 0 ?_ | refine uQ (f2) 1 ?_ | refine uQ (f2) 2 ?_ | refine uQ (f2) 3 ?_ | refine uQ (f2) 4 ?_ | refine uQ (f2) 5 ?_ | refine uQ (f2) 6 ?_ | refine uQ (f2) 7 ?_ | refine uQ (f2) 8 ?_ | refine uQ (f2) 9 ?_ | refine uQ (f2) 10 ?_ | refine uQ (f2) 11 ?_ | refine uQ (f2) 12 ?_ | refine uQ (f2) 13 ?_)) | (refine kR 682 rfl ?_; first | (first | refine uQ (cA) 0 ?_ | refine uQ (cA) 1 ?_ | refine uQ (cA) 2 ?_ | refine uQ (cA) 3 ?_ | refine uQ (cA) 4 ?_ | refine uQ (cA) 5 ?_ | refine uQ (cA) 6 ?_ | refine uQ (cA) 7 ?_ | refine uQ (cA) 8 ?_ | refine uQ (cA) 9 ?_ | refine uQ (cA) 10 ?_ | refine uQ (cA) 11 ?_ | refine uQ (cA) 12 ?_ | refine uQ (cA) 13 ?_)) | refine uR ?_)) | refine uC ?_ | refine kcp rfl (fun hc => ?_) (fun hc => ?_) | refine kcn rfl (fun hc => ?_) (fun hc => ?_) | refine kcb rfl (fun hc => ?_) (fun hc => ?_) | refine kcc rfl (fun hc => ?_) (fun hc => ?_) | refine AW.drawU (id := 1) mixed 0 qR ?_ | fail)
 all_goals first | (exfalso; omega) | ((first | exact Fin.q Try.results3 (.cons (.tmp rfl) .nil) [] | refine Fin.q Try.results3 (.cons (.tmp rfl) .nil) [] (hr := (.t ?_)) | refine Fin.mkv (rs := _) Try.results3 (.cons (.tmp rfl) .nil) [] (by decide) rfl ?_ ?_ ?_ <;> repeat' (skip; first | exact .nil | refine .cons rfl ?_ ?_ | refine .cons ?_ ?_ | refine .row ?_ | refine .rset ?_ | refine .box ?_ | exact .gone | refine .aggL ?_ | refine .tupL ?_ | refine .old rfl ?_ | refine .new rfl rfl rfl ?_ | exact .nl | exact .optr rfl | exact .nptr rfl rfl rfl | refine .t ?_ | exact .any _ | rfl)))
end
end Go.Proofs.Ytnfbggpkiekpdaa
