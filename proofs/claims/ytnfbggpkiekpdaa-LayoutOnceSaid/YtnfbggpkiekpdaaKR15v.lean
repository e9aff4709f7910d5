/- Joined: XTLaw15b. -/
import Derived.Test.YtnfbggpkiekpdaaKR15h
import Derived.Test.YtnfbggpkiekpdaaKR15u
namespace Go.Proofs.Ytnfbggpkiekpdaa
open Go.RowKit
set_option linter.unusedVariables false
set_option linter.unusedSimpArgs false
set_option linter.unnecessarySimpa false
set_option maxRecDepth 100000
set_option maxHeartbeats 64000000
section
attribute [local irreducible] AL AW RG Fin C Cd Cio thenQ blockQ retQ
set_option maxRecDepth 100000
theorem node_at {c : DConf} {o r a : Int} (t0 : 1 ≤ c.threads) (t1 : c.threads ≤ 64) (e : o * (1 + sizeC c) + r = a - 3 - 9 * c.threads) (h0 : 0 ≤ o * (1 + sizeC c)) (hr : 0 ≤ r) (ha : a ≤ 1700000) : nodeL c o = a - r := by
 unfold nodeL
 rw [Wi_in (x := c.threads * 9) (by omega), Wi_in (x := 3 + c.threads * 9) (by omega), Wi_in (x := o * (1 + sizeC c)) (by omega), Wi_in (by omega)]
 omega
theorem layoutOnce_c (c : DConf) (a : Int) (hs : c.start.length ≤ 1152921504606846976) (ha : -9223372036854775808 ≤ a ∧ a ≤ 9223372036854775807) : Cd Try.prog 5 [fCf c, i64 a] (bo true) [] := by
 have cW := what_c c hs a ha
 have cA := awake15_c
 by_cases h : a < 0 ∨ totL c ≤ a
 ·have cT := totL_c c hs
  rw [whatC_n h] at cW
  by_cases h0 : a < 0
  all_goals
   refine Cd.enter' Try.func5 rfl Try.ntmps5 rfl ?_
   repeat' (first | ((with_reducible refine kAL ?_); (first | (refine kL 714 rfl ?_; first | refine uK (cW) ?_) | (refine kL 1226 rfl ?_; first | refine uK (cT) ?_) | (refine kL 1354 rfl ?_; first | refine uK (cA) ?_) | refine uA ?_ | refine uS 20 (fun hb => ?_) (fun hb => ?_) | refine uS 26 (fun hb => ?_) (fun hb => ?_) | refine uS 30 (fun hb => ?_) (fun hb => ?_) | refine uS 34 (fun hb => ?_) (fun hb => ?_) | refine uS 85 (fun hb => ?_) (fun hb => ?_))) | refine uC ?_ | refine kcp rfl (fun hc => ?_) (fun hc => ?_) | refine kcn rfl (fun hc => ?_) (fun hc => ?_) | refine kcb rfl (fun hc => ?_) (fun hc => ?_) | refine kcc rfl (fun hc => ?_) (fun hc => ?_) | fail)
   all_goals first | (exfalso; omega) | ((first | exact Fin.q Try.results5 (.cons (.tmp rfl) .nil) [] | refine Fin.q Try.results5 (.cons (.tmp rfl) .nil) [] (hr := (.t ?_)) | refine Fin.mkv (rs := _) Try.results5 (.cons (.tmp rfl) .nil) [] (by decide) rfl ?_ ?_ ?_ <;> repeat' (skip; first | exact .nil | refine .cons rfl ?_ ?_ | refine .cons ?_ ?_ | refine .row ?_ | refine .rset ?_ | refine .box ?_ | exact .gone | refine .aggL ?_ | refine .tupL ?_ | refine .old rfl ?_ | refine .new rfl rfl rfl ?_ | exact .nl | exact .optr rfl | exact .nptr rfl rfl rfl | refine .t ?_ | exact .any _ | rfl)))
 ·obtain ⟨t0, t1, b1, z0, z1⟩ := whatC_in h
  have hX : a = 0 ∨ a = 1 ∨ a = 2 ∨ (3 ≤ a ∧ a - 3 < c.threads) ∨ (c.threads ≤ a - 3 ∧ a - 3 < 6 * c.threads) ∨ (6 * c.threads ≤ a - 3 ∧ a - 3 < 7 * c.threads) ∨ (7 * c.threads ≤ a - 3 ∧ a - 3 < 8 * c.threads) ∨ (8 * c.threads ≤ a - 3 ∧ a - 3 < 9 * c.threads) ∨ (9 * c.threads ≤ a - 3 ∧ (a - 3 - 9 * c.threads) % (1 + sizeC c) = 0) ∨ (9 * c.threads ≤ a - 3 ∧ ¬ (a - 3 - 9 * c.threads) % (1 + sizeC c) = 0) := by
   by_cases g : (a - 3 - 9 * c.threads) % (1 + sizeC c) = 0 <;> omega
  rcases hX with rfl | rfl | rfl | ⟨x, y⟩ | ⟨x, y⟩ | ⟨x, y⟩ | ⟨x, y⟩ | ⟨x, y⟩ | ⟨x, y⟩ | ⟨x, y⟩
  ·rw [whatC_r h (by decide)] at cW
   refine Cd.enter' Try.func5 rfl Try.ntmps5 rfl ?_
   repeat' (first | ((with_reducible refine kAL ?_); (first | (refine kL 714 rfl ?_; first | refine uK (cW) ?_) | (refine kL 1354 rfl ?_; first | refine uK (cA) ?_) | refine uA ?_ | refine uS 20 (fun hb => ?_) (fun hb => ?_) | refine uS 26 (fun hb => ?_) (fun hb => ?_) | refine uS 30 (fun hb => ?_) (fun hb => ?_) | refine uS 34 (fun hb => ?_) (fun hb => ?_) | refine uS 85 (fun hb => ?_) (fun hb => ?_))) | refine uC ?_ | refine kcp rfl (fun hc => ?_) (fun hc => ?_) | refine kcn rfl (fun hc => ?_) (fun hc => ?_) | refine kcb rfl (fun hc => ?_) (fun hc => ?_) | refine kcc rfl (fun hc => ?_) (fun hc => ?_) | fail)
   all_goals first | (exfalso; omega) | ((first | exact Fin.q Try.results5 (.cons (.tmp rfl) .nil) [] | refine Fin.q Try.results5 (.cons (.tmp rfl) .nil) [] (hr := (.t ?_)) | refine Fin.mkv (rs := _) Try.results5 (.cons (.tmp rfl) .nil) [] (by decide) rfl ?_ ?_ ?_ <;> repeat' (skip; first | exact .nil | refine .cons rfl ?_ ?_ | refine .cons ?_ ?_ | refine .row ?_ | refine .rset ?_ | refine .box ?_ | exact .gone | refine .aggL ?_ | refine .tupL ?_ | refine .old rfl ?_ | refine .new rfl rfl rfl ?_ | exact .nl | exact .optr rfl | exact .nptr rfl rfl rfl | refine .t ?_ | exact .any _ | rfl)))
  ·rw [whatC_r h (by decide)] at cW
   refine Cd.enter' Try.func5 rfl Try.ntmps5 rfl ?_
   repeat' (first | ((with_reducible refine kAL ?_); (first | (refine kL 714 rfl ?_; first | refine uK (cW) ?_) | (refine kL 1354 rfl ?_; first | refine uK (cA) ?_) | refine uA ?_ | refine uS 20 (fun hb => ?_) (fun hb => ?_) | refine uS 26 (fun hb => ?_) (fun hb => ?_) | refine uS 30 (fun hb => ?_) (fun hb => ?_) | refine uS 34 (fun hb => ?_) (fun hb => ?_) | refine uS 85 (fun hb => ?_) (fun hb => ?_))) | refine uC ?_ | refine kcp rfl (fun hc => ?_) (fun hc => ?_) | refine kcn rfl (fun hc => ?_) (fun hc => ?_) | refine kcb rfl (fun hc => ?_) (fun hc => ?_) | refine kcc rfl (fun hc => ?_) (fun hc => ?_) | fail)
   all_goals first | (exfalso; omega) | ((first | exact Fin.q Try.results5 (.cons (.tmp rfl) .nil) [] | refine Fin.q Try.results5 (.cons (.tmp rfl) .nil) [] (hr := (.t ?_)) | refine Fin.mkv (rs := _) Try.results5 (.cons (.tmp rfl) .nil) [] (by decide) rfl ?_ ?_ ?_ <;> repeat' (skip; first | exact .nil | refine .cons rfl ?_ ?_ | refine .cons ?_ ?_ | refine .row ?_ | refine .rset ?_ | refine .box ?_ | exact .gone | refine .aggL ?_ | refine .tupL ?_ | refine .old rfl ?_ | refine .new rfl rfl rfl ?_ | exact .nl | exact .optr rfl | exact .nptr rfl rfl rfl | refine .t ?_ | exact .any _ | rfl)))
  ·rw [whatC_r h (by decide)] at cW
   refine Cd.enter' Try.func5 rfl Try.ntmps5 rfl ?_
   repeat' (first | ((with_reducible refine kAL ?_); (first | (refine kL 714 rfl ?_; first | refine uK (cW) ?_) | (refine kL 1354 rfl ?_; first | refine uK (cA) ?_) | refine uA ?_ | refine uS 20 (fun hb => ?_) (fun hb => ?_) | refine uS 26 (fun hb => ?_) (fun hb => ?_) | refine uS 30 (fun hb => ?_) (fun hb => ?_) | refine uS 34 (fun hb => ?_) (fun hb => ?_) | refine uS 85 (fun hb => ?_) (fun hb => ?_))) | refine uC ?_ | refine kcp rfl (fun hc => ?_) (fun hc => ?_) | refine kcn rfl (fun hc => ?_) (fun hc => ?_) | refine kcb rfl (fun hc => ?_) (fun hc => ?_) | refine kcc rfl (fun hc => ?_) (fun hc => ?_) | fail)
   all_goals first | (exfalso; omega) | ((first | exact Fin.q Try.results5 (.cons (.tmp rfl) .nil) [] | refine Fin.q Try.results5 (.cons (.tmp rfl) .nil) [] (hr := (.t ?_)) | refine Fin.mkv (rs := _) Try.results5 (.cons (.tmp rfl) .nil) [] (by decide) rfl ?_ ?_ ?_ <;> repeat' (skip; first | exact .nil | refine .cons rfl ?_ ?_ | refine .cons ?_ ?_ | refine .row ?_ | refine .rset ?_ | refine .box ?_ | exact .gone | refine .aggL ?_ | refine .tupL ?_ | refine .old rfl ?_ | refine .new rfl rfl rfl ?_ | exact .nl | exact .optr rfl | exact .nptr rfl rfl rfl | refine .t ?_ | exact .any _ | rfl)))
  ·rw [whatC_4 h x y] at cW
   have c1 := seqL_c c (a - 3)
   rw [Wi_in (by omega), show 3 + (a - 3) = a by omega] at c1
   generalize a - 3 = o at cW c1
   refine Cd.enter' Try.func5 rfl Try.ntmps5 rfl ?_
   repeat' (first | ((with_reducible refine kAL ?_); (first | (refine kL 714 rfl ?_; first | refine uK (cW) ?_) | (refine kL 1354 rfl ?_; first | refine uK (cA) ?_) | (refine kL 778 rfl ?_; first | refine uK (c1) ?_) | refine uA ?_ | refine uS 20 (fun hb => ?_) (fun hb => ?_) | refine uS 26 (fun hb => ?_) (fun hb => ?_) | refine uS 30 (fun hb => ?_) (fun hb => ?_) | refine uS 34 (fun hb => ?_) (fun hb => ?_) | refine uS 85 (fun hb => ?_) (fun hb => ?_))) | refine uC ?_ | refine kcp rfl (fun hc => ?_) (fun hc => ?_) | refine kcn rfl (fun hc => ?_) (fun hc => ?_) | refine kcb rfl (fun hc => ?_) (fun hc => ?_) | refine kcc rfl (fun hc => ?_) (fun hc => ?_) | fail)
   all_goals first | (exfalso; omega) | ((first | exact Fin.q Try.results5 (.cons (.tmp rfl) .nil) [] | refine Fin.q Try.results5 (.cons (.tmp rfl) .nil) [] (hr := (.t ?_)) | refine Fin.mkv (rs := _) Try.results5 (.cons (.tmp rfl) .nil) [] (by decide) rfl ?_ ?_ ?_ <;> repeat' (skip; first | exact .nil | refine .cons rfl ?_ ?_ | refine .cons ?_ ?_ | refine .row ?_ | refine .rset ?_ | refine .box ?_ | exact .gone | refine .aggL ?_ | refine .tupL ?_ | refine .old rfl ?_ | refine .new rfl rfl rfl ?_ | exact .nl | exact .optr rfl | exact .nptr rfl rfl rfl | refine .t ?_ | exact .any _ | rfl)))
  ·rw [whatC_5 h t0 x y] at cW
   have c1 := argsL_c c ((a - 3 - c.threads) / 5)
   have e : argsL c ((a - 3 - c.threads) / 5) = a - (a - 3 - c.threads) % 5 := by
    unfold argsL
    rw [Wi_in (x := 3 + c.threads) (by omega), Wi_in (x := (a - 3 - c.threads) / 5 * 5) (by omega), Wi_in (by omega)]
    omega
   rw [e] at c1
   have e2 : 0 ≤ (a - 3 - c.threads) % 5 ∧ (a - 3 - c.threads) % 5 < 5 := by omega
   generalize (a - 3 - c.threads) / 5 = o at cW c1
   generalize (a - 3 - c.threads) % 5 = pl at cW c1 e2
   clear e
   refine Cd.enter' Try.func5 rfl Try.ntmps5 rfl ?_
   repeat' (first | ((with_reducible refine kAL ?_); (first | (refine kL 714 rfl ?_; first | refine uK (cW) ?_) | (refine kL 1354 rfl ?_; first | refine uK (cA) ?_) | (refine kL 842 rfl ?_; first | refine uK (c1) ?_) | refine uA ?_ | refine uS 20 (fun hb => ?_) (fun hb => ?_) | refine uS 26 (fun hb => ?_) (fun hb => ?_) | refine uS 30 (fun hb => ?_) (fun hb => ?_) | refine uS 34 (fun hb => ?_) (fun hb => ?_) | refine uS 85 (fun hb => ?_) (fun hb => ?_))) | refine uC ?_ | refine kcp rfl (fun hc => ?_) (fun hc => ?_) | refine kcn rfl (fun hc => ?_) (fun hc => ?_) | refine kcb rfl (fun hc => ?_) (fun hc => ?_) | refine kcc rfl (fun hc => ?_) (fun hc => ?_) | fail)
   all_goals first | (exfalso; omega) | ((first | exact Fin.q Try.results5 (.cons (.tmp rfl) .nil) [] | refine Fin.q Try.results5 (.cons (.tmp rfl) .nil) [] (hr := (.t ?_)) | refine Fin.mkv (rs := _) Try.results5 (.cons (.tmp rfl) .nil) [] (by decide) rfl ?_ ?_ ?_ <;> repeat' (skip; first | exact .nil | refine .cons rfl ?_ ?_ | refine .cons ?_ ?_ | refine .row ?_ | refine .rset ?_ | refine .box ?_ | exact .gone | refine .aggL ?_ | refine .tupL ?_ | refine .old rfl ?_ | refine .new rfl rfl rfl ?_ | exact .nl | exact .optr rfl | exact .nptr rfl rfl rfl | refine .t ?_ | exact .any _ | rfl)))
  ·rw [whatC_6 h t0 x y] at cW
   have c1 := hazL_c c (a - 3 - 6 * c.threads)
   unfold hazL at c1
   rw [Wi_in (x := c.threads * 6) (by omega), Wi_in (x := 3 + c.threads * 6) (by omega), Wi_in (by omega), show 3 + c.threads * 6 + (a - 3 - 6 * c.threads) = a by omega] at c1
   generalize a - 3 - 6 * c.threads = o at cW c1
   refine Cd.enter' Try.func5 rfl Try.ntmps5 rfl ?_
   repeat' (first | ((with_reducible refine kAL ?_); (first | (refine kL 714 rfl ?_; first | refine uK (cW) ?_) | (refine kL 1354 rfl ?_; first | refine uK (cA) ?_) | (refine kL 906 rfl ?_; first | refine uK (c1) ?_) | refine uA ?_ | refine uS 20 (fun hb => ?_) (fun hb => ?_) | refine uS 26 (fun hb => ?_) (fun hb => ?_) | refine uS 30 (fun hb => ?_) (fun hb => ?_) | refine uS 34 (fun hb => ?_) (fun hb => ?_) | refine uS 85 (fun hb => ?_) (fun hb => ?_))) | refine uC ?_ | refine kcp rfl (fun hc => ?_) (fun hc => ?_) | refine kcn rfl (fun hc => ?_) (fun hc => ?_) | refine kcb rfl (fun hc => ?_) (fun hc => ?_) | refine kcc rfl (fun hc => ?_) (fun hc => ?_) | fail)
   all_goals first | (exfalso; omega) | ((first | exact Fin.q Try.results5 (.cons (.tmp rfl) .nil) [] | refine Fin.q Try.results5 (.cons (.tmp rfl) .nil) [] (hr := (.t ?_)) | refine Fin.mkv (rs := _) Try.results5 (.cons (.tmp rfl) .nil) [] (by decide) rfl ?_ ?_ ?_ <;> repeat' (skip; first | exact .nil | refine .cons rfl ?_ ?_ | refine .cons ?_ ?_ | refine .row ?_ | refine .rset ?_ | refine .box ?_ | exact .gone | refine .aggL ?_ | refine .tupL ?_ | refine .old rfl ?_ | refine .new rfl rfl rfl ?_ | exact .nl | exact .optr rfl | exact .nptr rfl rfl rfl | refine .t ?_ | exact .any _ | rfl)))
  ·rw [whatC_7 h t0 x y] at cW
   have c1 := epL_c c (a - 3 - 7 * c.threads)
   unfold epL at c1
   rw [Wi_in (x := c.threads * 7) (by omega), Wi_in (x := 3 + c.threads * 7) (by omega), Wi_in (by omega), show 3 + c.threads * 7 + (a - 3 - 7 * c.threads) = a by omega] at c1
   generalize a - 3 - 7 * c.threads = o at cW c1
   refine Cd.enter' Try.func5 rfl Try.ntmps5 rfl ?_
   repeat' (first | ((with_reducible refine kAL ?_); (first | (refine kL 714 rfl ?_; first | refine uK (cW) ?_) | (refine kL 1354 rfl ?_; first | refine uK (cA) ?_) | (refine kL 970 rfl ?_; first | refine uK (c1) ?_) | refine uA ?_ | refine uS 20 (fun hb => ?_) (fun hb => ?_) | refine uS 26 (fun hb => ?_) (fun hb => ?_) | refine uS 30 (fun hb => ?_) (fun hb => ?_) | refine uS 34 (fun hb => ?_) (fun hb => ?_) | refine uS 85 (fun hb => ?_) (fun hb => ?_))) | refine uC ?_ | refine kcp rfl (fun hc => ?_) (fun hc => ?_) | refine kcn rfl (fun hc => ?_) (fun hc => ?_) | refine kcb rfl (fun hc => ?_) (fun hc => ?_) | refine kcc rfl (fun hc => ?_) (fun hc => ?_) | fail)
   all_goals first | (exfalso; omega) | ((first | exact Fin.q Try.results5 (.cons (.tmp rfl) .nil) [] | refine Fin.q Try.results5 (.cons (.tmp rfl) .nil) [] (hr := (.t ?_)) | refine Fin.mkv (rs := _) Try.results5 (.cons (.tmp rfl) .nil) [] (by decide) rfl ?_ ?_ ?_ <;> repeat' (skip; first | exact .nil | refine .cons rfl ?_ ?_ | refine .cons ?_ ?_ | refine .row ?_ | refine .rset ?_ | refine .box ?_ | exact .gone | refine .aggL ?_ | refine .tupL ?_ | refine .old rfl ?_ | refine .new rfl rfl rfl ?_ | exact .nl | exact .optr rfl | exact .nptr rfl rfl rfl | refine .t ?_ | exact .any _ | rfl)))
  ·rw [whatC_8 h t0 x y] at cW
   have c1 := mailL_c c (a - 3 - 8 * c.threads)
   unfold mailL at c1
   rw [Wi_in (x := c.threads * 8) (by omega), Wi_in (x := 3 + c.threads * 8) (by omega), Wi_in (by omega), show 3 + c.threads * 8 + (a - 3 - 8 * c.threads) = a by omega] at c1
   generalize a - 3 - 8 * c.threads = o at cW c1
   refine Cd.enter' Try.func5 rfl Try.ntmps5 rfl ?_
   repeat' (first | ((with_reducible refine kAL ?_); (first | (refine kL 714 rfl ?_; first | refine uK (cW) ?_) | (refine kL 1354 rfl ?_; first | refine uK (cA) ?_) | (refine kL 1034 rfl ?_; first | refine uK (c1) ?_) | refine uA ?_ | refine uS 20 (fun hb => ?_) (fun hb => ?_) | refine uS 26 (fun hb => ?_) (fun hb => ?_) | refine uS 30 (fun hb => ?_) (fun hb => ?_) | refine uS 34 (fun hb => ?_) (fun hb => ?_) | refine uS 85 (fun hb => ?_) (fun hb => ?_))) | refine uC ?_ | refine kcp rfl (fun hc => ?_) (fun hc => ?_) | refine kcn rfl (fun hc => ?_) (fun hc => ?_) | refine kcb rfl (fun hc => ?_) (fun hc => ?_) | refine kcc rfl (fun hc => ?_) (fun hc => ?_) | fail)
   all_goals first | (exfalso; omega) | ((first | exact Fin.q Try.results5 (.cons (.tmp rfl) .nil) [] | refine Fin.q Try.results5 (.cons (.tmp rfl) .nil) [] (hr := (.t ?_)) | refine Fin.mkv (rs := _) Try.results5 (.cons (.tmp rfl) .nil) [] (by decide) rfl ?_ ?_ ?_ <;> repeat' (skip; first | exact .nil | refine .cons rfl ?_ ?_ | refine .cons ?_ ?_ | refine .row ?_ | refine .rset ?_ | refine .box ?_ | exact .gone | refine .aggL ?_ | refine .tupL ?_ | refine .old rfl ?_ | refine .new rfl rfl rfl ?_ | exact .nl | exact .optr rfl | exact .nptr rfl rfl rfl | refine .t ?_ | exact .any _ | rfl)))
  ·rw [whatC_9 h t0 x y] at cW
   have c1 := nodeL_c c hs ((a - 3 - 9 * c.threads) / (1 + sizeC c))
   have q := Int.mul_ediv_add_emod (a - 3 - 9 * c.threads) (1 + sizeC c)
   rw [Int.mul_comm] at q
   rw [node_at t0 t1 q (by omega) (by omega) (by omega), y, show a - 0 = a by omega] at c1
   generalize (a - 3 - 9 * c.threads) / (1 + sizeC c) = o at cW c1
   clear q y
   refine Cd.enter' Try.func5 rfl Try.ntmps5 rfl ?_
   repeat' (first | ((with_reducible refine kAL ?_); (first | (refine kL 714 rfl ?_; first | refine uK (cW) ?_) | (refine kL 1354 rfl ?_; first | refine uK (cA) ?_) | (refine kL 1162 rfl ?_; first | refine uK (c1) ?_) | refine uA ?_ | refine uS 20 (fun hb => ?_) (fun hb => ?_) | refine uS 26 (fun hb => ?_) (fun hb => ?_) | refine uS 30 (fun hb => ?_) (fun hb => ?_) | refine uS 34 (fun hb => ?_) (fun hb => ?_) | refine uS 85 (fun hb => ?_) (fun hb => ?_))) | refine uC ?_ | refine kcp rfl (fun hc => ?_) (fun hc => ?_) | refine kcn rfl (fun hc => ?_) (fun hc => ?_) | refine kcb rfl (fun hc => ?_) (fun hc => ?_) | refine kcc rfl (fun hc => ?_) (fun hc => ?_) | fail)
   all_goals first | (exfalso; omega) | ((first | exact Fin.q Try.results5 (.cons (.tmp rfl) .nil) [] | refine Fin.q Try.results5 (.cons (.tmp rfl) .nil) [] (hr := (.t ?_)) | refine Fin.mkv (rs := _) Try.results5 (.cons (.tmp rfl) .nil) [] (by decide) rfl ?_ ?_ ?_ <;> repeat' (skip; first | exact .nil | refine .cons rfl ?_ ?_ | refine .cons ?_ ?_ | refine .row ?_ | refine .rset ?_ | refine .box ?_ | exact .gone | refine .aggL ?_ | refine .tupL ?_ | refine .old rfl ?_ | refine .new rfl rfl rfl ?_ | exact .nl | exact .optr rfl | exact .nptr rfl rfl rfl | refine .t ?_ | exact .any _ | rfl)))
  ·rw [whatC_10 h t0 x y] at cW
   have c1 := nodeL_c c hs ((a - 3 - 9 * c.threads) / (1 + sizeC c))
   have q := Int.mul_ediv_add_emod (a - 3 - 9 * c.threads) (1 + sizeC c)
   have r0 := Int.emod_nonneg (a - 3 - 9 * c.threads) (b := 1 + sizeC c) (by omega)
   have r1 := Int.emod_lt_of_pos (a - 3 - 9 * c.threads) (b := 1 + sizeC c) (by omega)
   rw [Int.mul_comm] at q
   have q0 : 0 ≤ (a - 3 - 9 * c.threads) / (1 + sizeC c) * (1 + sizeC c) := Int.mul_nonneg (Int.ediv_nonneg (by omega) (by omega)) (by omega)
   rw [node_at t0 t1 q q0 (by omega) (by omega)] at c1
   generalize (a - 3 - 9 * c.threads) / (1 + sizeC c) = o at cW c1
   generalize (a - 3 - 9 * c.threads) % (1 + sizeC c) = r at cW c1 r0 r1 y
   clear q q0
   refine Cd.enter' Try.func5 rfl Try.ntmps5 rfl ?_
   repeat' (first | ((with_reducible refine kAL ?_); (first | (refine kL 714 rfl ?_; first | refine uK (cW) ?_) | (refine kL 1354 rfl ?_; first | refine uK (cA) ?_) | (refine kL 1162 rfl ?_; first | refine uK (c1) ?_) | refine uA ?_ | refine uS 20 (fun hb => ?_) (fun hb => ?_) | refine uS 26 (fun hb => ?_) (fun hb => ?_) | refine uS 30 (fun hb => ?_) (fun hb => ?_) | refine uS 34 (fun hb => ?_) (fun hb => ?_) | refine uS 85 (fun hb => ?_) (fun hb => ?_))) | refine uC ?_ | refine kcp rfl (fun hc => ?_) (fun hc => ?_) | refine kcn rfl (fun hc => ?_) (fun hc => ?_) | refine kcb rfl (fun hc => ?_) (fun hc => ?_) | refine kcc rfl (fun hc => ?_) (fun hc => ?_) | fail)
   all_goals first | (exfalso; omega) | ((first | exact Fin.q Try.results5 (.cons (.tmp rfl) .nil) [] | refine Fin.q Try.results5 (.cons (.tmp rfl) .nil) [] (hr := (.t ?_)) | refine Fin.mkv (rs := _) Try.results5 (.cons (.tmp rfl) .nil) [] (by decide) rfl ?_ ?_ ?_ <;> repeat' (skip; first | exact .nil | refine .cons rfl ?_ ?_ | refine .cons ?_ ?_ | refine .row ?_ | refine .rset ?_ | refine .box ?_ | exact .gone | refine .aggL ?_ | refine .tupL ?_ | refine .old rfl ?_ | refine .new rfl rfl rfl ?_ | exact .nl | exact .optr rfl | exact .nptr rfl rfl rfl | refine .t ?_ | exact .any _ | rfl)))
end
end Go.Proofs.Ytnfbggpkiekpdaa
