/- Joined: XTBehindR. -/
import Derived.Test.YtnfbggpkiekpdaaKR15h
import Derived.Test.YtnfbggpkiekpdaaKR15w
namespace Go.Proofs.Ytnfbggpkiekpdaa
open Go.RowKit
set_option linter.unusedVariables false
set_option linter.unusedSimpArgs false
set_option linter.unnecessarySimpa false
set_option maxRecDepth 100000
set_option maxHeartbeats 64000000
section
attribute [local irreducible] AL AW RG Fin C Cd Cio thenQ blockQ retQ
set_option maxRecDepth 100000
theorem rfinal_c (r : Rst) : Cd Try.prog 96 [aR r] (bo (decide (r.code ≠ 14))) [] := by
 refine Cd.enter' Try.func96 rfl Try.ntmps96 rfl ?_
 repeat' (first | refine uA ?_ | refine uC ?_ | refine kcp rfl (fun hc => ?_) (fun hc => ?_) | refine kcn rfl (fun hc => ?_) (fun hc => ?_) | refine kcb rfl (fun hc => ?_) (fun hc => ?_) | refine kcc rfl (fun hc => ?_) (fun hc => ?_) | fail)
 all_goals first | (exfalso; omega) | ((first | exact Fin.q Try.results96 (.cons (.tmp rfl) .nil) [] | refine Fin.q Try.results96 (.cons (.tmp rfl) .nil) [] (hr := (.t ?_)) | refine Fin.mkv (rs := _) Try.results96 (.cons (.tmp rfl) .nil) [] (by decide) rfl ?_ ?_ ?_ <;> repeat' (skip; first | exact .nil | refine .cons rfl ?_ ?_ | refine .cons ?_ ?_ | refine .row ?_ | refine .rset ?_ | refine .box ?_ | exact .gone | refine .aggL ?_ | refine .tupL ?_ | refine .old rfl ?_ | refine .new rfl rfl rfl ?_ | exact .nl | exact .optr rfl | exact .nptr rfl rfl rfl | refine .t ?_ | exact .any _ | rfl)))
theorem rbehind_c (a b : Int) (ha : 0 ≤ a ∧ a ≤ 18446744073709551615) (hb : 0 ≤ b ∧ b ≤ 18446744073709551615) : Cd Try.prog 66 [u64 a, u64 b] (bo (decide (rankR (readR a) < rankR (readR b)))) [] := by
 have c1 := rread_c a ha
 have c2 := rread_c b hb
 have c3 := rfinal_c (readR a)
 have c4 := rfinal_c (readR b)
 generalize readR a = x at *
 generalize readR b = y at *
 obtain ⟨x1, x2, x3, x4⟩ := x
 obtain ⟨y1, y2, y3, y4⟩ := y
 unfold rankR
 dsimp only [aR] at *
 have cs : x1 < y1 ∨ y1 < x1 ∨ (x1 = y1 ∧ x3 ≠ 14) ∨ (x1 = y1 ∧ x3 = 14 ∧ y3 = 14) ∨ (x1 = y1 ∧ x3 = 14 ∧ y3 ≠ 14) := by omega
 rcases cs with h | h | ⟨rfl, h⟩ | ⟨rfl, h, h2⟩ | ⟨rfl, h, h2⟩
 ·rw [decide_eq_true (by split <;> split <;> omega)]
  clear c3 c4
  refine Cd.enter' Try.func66 rfl Try.ntmps66 rfl ?_
  repeat' (first | ((with_reducible refine kAL ?_); (first | (refine kL 1866 rfl ?_; first | refine uK (c1) ?_ | refine uK (c2) ?_) | refine uA ?_ | refine uS 16 (fun hb => ?_) (fun hb => ?_) | refine uS 22 (fun hb => ?_) (fun hb => ?_) | refine uS 27 (fun hb => ?_) (fun hb => ?_))) | refine uC ?_ | refine kcp rfl (fun hc => ?_) (fun hc => ?_) | refine kcn rfl (fun hc => ?_) (fun hc => ?_) | refine kcb rfl (fun hc => ?_) (fun hc => ?_) | refine kcc rfl (fun hc => ?_) (fun hc => ?_) | fail)
  all_goals first | (exfalso; omega) | ((first | exact Fin.q Try.results66 (.cons (.tmp rfl) .nil) [] | refine Fin.q Try.results66 (.cons (.tmp rfl) .nil) [] (hr := (.t ?_)) | refine Fin.mkv (rs := _) Try.results66 (.cons (.tmp rfl) .nil) [] (by decide) rfl ?_ ?_ ?_ <;> repeat' (skip; first | exact .nil | refine .cons rfl ?_ ?_ | refine .cons ?_ ?_ | refine .row ?_ | refine .rset ?_ | refine .box ?_ | exact .gone | refine .aggL ?_ | refine .tupL ?_ | refine .old rfl ?_ | refine .new rfl rfl rfl ?_ | exact .nl | exact .optr rfl | exact .nptr rfl rfl rfl | refine .t ?_ | exact .any _ | rfl)))
 ·rw [decide_eq_false (by split <;> split <;> omega)]
  clear c3 c4
  refine Cd.enter' Try.func66 rfl Try.ntmps66 rfl ?_
  repeat' (first | ((with_reducible refine kAL ?_); (first | (refine kL 1866 rfl ?_; first | refine uK (c1) ?_ | refine uK (c2) ?_) | refine uA ?_ | refine uS 16 (fun hb => ?_) (fun hb => ?_) | refine uS 22 (fun hb => ?_) (fun hb => ?_) | refine uS 27 (fun hb => ?_) (fun hb => ?_))) | refine uC ?_ | refine kcp rfl (fun hc => ?_) (fun hc => ?_) | refine kcn rfl (fun hc => ?_) (fun hc => ?_) | refine kcb rfl (fun hc => ?_) (fun hc => ?_) | refine kcc rfl (fun hc => ?_) (fun hc => ?_) | fail)
  all_goals first | (exfalso; omega) | ((first | exact Fin.q Try.results66 (.cons (.tmp rfl) .nil) [] | refine Fin.q Try.results66 (.cons (.tmp rfl) .nil) [] (hr := (.t ?_)) | refine Fin.mkv (rs := _) Try.results66 (.cons (.tmp rfl) .nil) [] (by decide) rfl ?_ ?_ ?_ <;> repeat' (skip; first | exact .nil | refine .cons rfl ?_ ?_ | refine .cons ?_ ?_ | refine .row ?_ | refine .rset ?_ | refine .box ?_ | exact .gone | refine .aggL ?_ | refine .tupL ?_ | refine .old rfl ?_ | refine .new rfl rfl rfl ?_ | exact .nl | exact .optr rfl | exact .nptr rfl rfl rfl | refine .t ?_ | exact .any _ | rfl)))
 ·rw [decide_eq_false (by rw [if_neg h]; split <;> omega)]
  rw [decide_eq_true h] at c3
  clear c4
  refine Cd.enter' Try.func66 rfl Try.ntmps66 rfl ?_
  repeat' (first | ((with_reducible refine kAL ?_); (first | (refine kL 1866 rfl ?_; first | refine uK (c1) ?_ | refine uK (c2) ?_) | (refine kL 3082 rfl ?_; first | refine uK (c3) ?_) | refine uA ?_ | refine uS 16 (fun hb => ?_) (fun hb => ?_) | refine uS 22 (fun hb => ?_) (fun hb => ?_) | refine uS 27 (fun hb => ?_) (fun hb => ?_))) | refine uC ?_ | refine kcp rfl (fun hc => ?_) (fun hc => ?_) | refine kcn rfl (fun hc => ?_) (fun hc => ?_) | refine kcb rfl (fun hc => ?_) (fun hc => ?_) | refine kcc rfl (fun hc => ?_) (fun hc => ?_) | fail)
  all_goals first | (exfalso; omega) | ((first | exact Fin.q Try.results66 (.cons (.tmp rfl) .nil) [] | refine Fin.q Try.results66 (.cons (.tmp rfl) .nil) [] (hr := (.t ?_)) | refine Fin.mkv (rs := _) Try.results66 (.cons (.tmp rfl) .nil) [] (by decide) rfl ?_ ?_ ?_ <;> repeat' (skip; first | exact .nil | refine .cons rfl ?_ ?_ | refine .cons ?_ ?_ | refine .row ?_ | refine .rset ?_ | refine .box ?_ | exact .gone | refine .aggL ?_ | refine .tupL ?_ | refine .old rfl ?_ | refine .new rfl rfl rfl ?_ | exact .nl | exact .optr rfl | exact .nptr rfl rfl rfl | refine .t ?_ | exact .any _ | rfl)))
 ·rw [decide_eq_false (by rw [if_pos h, if_pos h2]; omega)]
  rw [decide_eq_false (by simp [h])] at c3
  rw [decide_eq_false (by simp [h2])] at c4
  refine Cd.enter' Try.func66 rfl Try.ntmps66 rfl ?_
  repeat' (first | ((with_reducible refine kAL ?_); (first | (refine kL 1866 rfl ?_; first | refine uK (c1) ?_ | refine uK (c2) ?_) | (refine kL 3082 rfl ?_; first | refine uK (c3) ?_ | refine uK (c4) ?_) | refine uA ?_ | refine uS 16 (fun hb => ?_) (fun hb => ?_) | refine uS 22 (fun hb => ?_) (fun hb => ?_) | refine uS 27 (fun hb => ?_) (fun hb => ?_))) | refine uC ?_ | refine kcp rfl (fun hc => ?_) (fun hc => ?_) | refine kcn rfl (fun hc => ?_) (fun hc => ?_) | refine kcb rfl (fun hc => ?_) (fun hc => ?_) | refine kcc rfl (fun hc => ?_) (fun hc => ?_) | fail)
  all_goals first | (exfalso; omega) | ((first | exact Fin.q Try.results66 (.cons (.tmp rfl) .nil) [] | refine Fin.q Try.results66 (.cons (.tmp rfl) .nil) [] (hr := (.t ?_)) | refine Fin.mkv (rs := _) Try.results66 (.cons (.tmp rfl) .nil) [] (by decide) rfl ?_ ?_ ?_ <;> repeat' (skip; first | exact .nil | refine .cons rfl ?_ ?_ | refine .cons ?_ ?_ | refine .row ?_ | refine .rset ?_ | refine .box ?_ | exact .gone | refine .aggL ?_ | refine .tupL ?_ | refine .old rfl ?_ | refine .new rfl rfl rfl ?_ | exact .nl | exact .optr rfl | exact .nptr rfl rfl rfl | refine .t ?_ | exact .any _ | rfl)))
 ·rw [decide_eq_true (by rw [if_pos h, if_neg h2]; omega)]
  rw [decide_eq_false (by simp [h])] at c3
  rw [decide_eq_true h2] at c4
  refine Cd.enter' Try.func66 rfl Try.ntmps66 rfl ?_
  repeat' (first | ((with_reducible refine kAL ?_); (first | (refine kL 1866 rfl ?_; first | refine uK (c1) ?_ | refine uK (c2) ?_) | (refine kL 3082 rfl ?_; first | refine uK (c3) ?_ | refine uK (c4) ?_) | refine uA ?_ | refine uS 16 (fun hb => ?_) (fun hb => ?_) | refine uS 22 (fun hb => ?_) (fun hb => ?_) | refine uS 27 (fun hb => ?_) (fun hb => ?_))) | refine uC ?_ | refine kcp rfl (fun hc => ?_) (fun hc => ?_) | refine kcn rfl (fun hc => ?_) (fun hc => ?_) | refine kcb rfl (fun hc => ?_) (fun hc => ?_) | refine kcc rfl (fun hc => ?_) (fun hc => ?_) | fail)
  all_goals first | (exfalso; omega) | ((first | exact Fin.q Try.results66 (.cons (.tmp rfl) .nil) [] | refine Fin.q Try.results66 (.cons (.tmp rfl) .nil) [] (hr := (.t ?_)) | refine Fin.mkv (rs := _) Try.results66 (.cons (.tmp rfl) .nil) [] (by decide) rfl ?_ ?_ ?_ <;> repeat' (skip; first | exact .nil | refine .cons rfl ?_ ?_ | refine .cons ?_ ?_ | refine .row ?_ | refine .rset ?_ | refine .box ?_ | exact .gone | refine .aggL ?_ | refine .tupL ?_ | refine .old rfl ?_ | refine .new rfl rfl rfl ?_ | exact .nl | exact .optr rfl | exact .nptr rfl rfl rfl | refine .t ?_ | exact .any _ | rfl)))
end
end Go.Proofs.Ytnfbggpkiekpdaa
