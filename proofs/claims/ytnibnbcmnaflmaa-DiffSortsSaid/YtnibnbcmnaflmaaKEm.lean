/- Joined: XTWhat, XTHas. -/
import Derived.Test.YtnibnbcmnaflmaaKEh
import Derived.Test.YtnibnbcmnaflmaaKEl
import Derived.Test.YtnibnbcmnaflmaaKEe
namespace Go.Proofs.Ytnibnbcmnaflmaa
open Go.RowKit
set_option linter.unusedVariables false
set_option linter.unusedSimpArgs false
set_option linter.unnecessarySimpa false
set_option maxRecDepth 100000
set_option maxHeartbeats 64000000
section
attribute [local irreducible] AL AW RG Fin C Cd Cio thenQ blockQ retQ
set_option maxRecDepth 100000
abbrev aW (w : Int × Int × Int) : AV := .tup [i64 w.1, i64 w.2.1, i64 w.2.2]
def whatC (c : DConf) (addr : Int) : Int × Int × Int := whatL c.threads (1 + sizeC c) (totL c) addr
theorem whatC_n {c : DConf} {a : Int} (h : a < 0 ∨ totL c ≤ a) : whatC c a = (0, 0, 0) := by unfold whatC whatL; rw [if_pos h]
theorem whatC_r {c : DConf} {a : Int} (h : ¬ (a < 0 ∨ totL c ≤ a)) (h3 : a < 3) : whatC c a = (a + 1, 0, 0) := by unfold whatC whatL; rw [if_neg h, if_pos h3]
theorem whatC_4 {c : DConf} {a : Int} (h : ¬ (a < 0 ∨ totL c ≤ a)) (h3 : 3 ≤ a) (h4 : a - 3 < c.threads) : whatC c a = (4, a - 3, 0) := by unfold whatC whatL; rw [if_neg h, if_neg (by omega), if_pos h4]
theorem whatC_5 {c : DConf} {a : Int} (h : ¬ (a < 0 ∨ totL c ≤ a)) (ht : 1 ≤ c.threads) (h4 : c.threads ≤ a - 3) (h5 : a - 3 < 6 * c.threads) : whatC c a = (5, (a - 3 - c.threads) / 5, (a - 3 - c.threads) % 5) := by unfold whatC whatL; rw [if_neg h, if_neg (by omega), if_neg (by omega), if_pos h5]
theorem whatC_6 {c : DConf} {a : Int} (h : ¬ (a < 0 ∨ totL c ≤ a)) (ht : 1 ≤ c.threads) (h5 : 6 * c.threads ≤ a - 3) (h6 : a - 3 < 7 * c.threads) : whatC c a = (6, a - 3 - 6 * c.threads, 0) := by unfold whatC whatL; rw [if_neg h, if_neg (by omega), if_neg (by omega), if_neg (by omega), if_pos h6]
theorem whatC_7 {c : DConf} {a : Int} (h : ¬ (a < 0 ∨ totL c ≤ a)) (ht : 1 ≤ c.threads) (h5 : 7 * c.threads ≤ a - 3) (h6 : a - 3 < 8 * c.threads) : whatC c a = (7, a - 3 - 7 * c.threads, 0) := by unfold whatC whatL; rw [if_neg h, if_neg (by omega), if_neg (by omega), if_neg (by omega), if_neg (by omega), if_pos h6]
theorem whatC_8 {c : DConf} {a : Int} (h : ¬ (a < 0 ∨ totL c ≤ a)) (ht : 1 ≤ c.threads) (h5 : 8 * c.threads ≤ a - 3) (h6 : a - 3 < 9 * c.threads) : whatC c a = (8, a - 3 - 8 * c.threads, 0) := by unfold whatC whatL; rw [if_neg h, if_neg (by omega), if_neg (by omega), if_neg (by omega), if_neg (by omega), if_neg (by omega), if_pos h6]
theorem whatC_9 {c : DConf} {a : Int} (h : ¬ (a < 0 ∨ totL c ≤ a)) (ht : 1 ≤ c.threads) (h5 : 9 * c.threads ≤ a - 3) (h6 : (a - 3 - 9 * c.threads) % (1 + sizeC c) = 0) : whatC c a = (9, (a - 3 - 9 * c.threads) / (1 + sizeC c), 0) := by unfold whatC whatL; rw [if_neg h, if_neg (by omega), if_neg (by omega), if_neg (by omega), if_neg (by omega), if_neg (by omega), if_neg (by omega), if_pos h6]
theorem whatC_10 {c : DConf} {a : Int} (h : ¬ (a < 0 ∨ totL c ≤ a)) (ht : 1 ≤ c.threads) (h5 : 9 * c.threads ≤ a - 3) (h6 : ¬ (a - 3 - 9 * c.threads) % (1 + sizeC c) = 0) : whatC c a = (10, (a - 3 - 9 * c.threads) / (1 + sizeC c), (a - 3 - 9 * c.threads) % (1 + sizeC c) - 1) := by unfold whatC whatL; rw [if_neg h, if_neg (by omega), if_neg (by omega), if_neg (by omega), if_neg (by omega), if_neg (by omega), if_neg (by omega), if_neg h6]
theorem whatC_in {c : DConf} {a : Int} (h : ¬ (a < 0 ∨ totL c ≤ a)) : 1 ≤ c.threads ∧ c.threads ≤ 64 ∧ totL c ≤ 1700000 ∧ 0 ≤ sizeC c ∧ sizeC c ≤ 393 := by
 cases hk : chkC c
 ·have : totL c = 0 := by unfold totL; rw [hk]; rfl
  omega
 ·have S := chkC_shaped hk
  obtain ⟨_, e, b1, b2⟩ := totL_b hk
  have t0 := S.t0
  have t1 := S.t1
  have z := sizeC_b c
  omega
theorem rwhat_c (c : DConf) (hs : c.start.length ≤ 1152921504606846976) (a : Int) (ha : -9223372036854775808 ≤ a ∧ a ≤ 9223372036854775807) : Cd Try.prog 39 [aCf c, i64 a] (aW (whatC c a)) [] := by
 have c1 := rtotL_c c hs
 have c2 := rsize_c c hs
 by_cases h : a < 0 ∨ totL c ≤ a
 ·rw [whatC_n h]
  by_cases h0 : a < 0
  all_goals
   refine Cd.enter' Try.func39 rfl Try.ntmps39 rfl ?_
   repeat' (first | ((with_reducible refine kAL ?_); (first | (refine kL 2058 rfl ?_; first | refine uK (c1) ?_) | refine uA ?_ | refine uS 14 (fun hb => ?_) (fun hb => ?_))) | refine uR ?_ | refine uC ?_ | refine kcp rfl (fun hc => ?_) (fun hc => ?_) | refine kcn rfl (fun hc => ?_) (fun hc => ?_) | refine kcb rfl (fun hc => ?_) (fun hc => ?_) | refine kcc rfl (fun hc => ?_) (fun hc => ?_) | refine AW.drawU (id := 20) mixed 0 qR ?_ | refine AW.drawU (id := 21) mixed 0 qR ?_ | fail)
   all_goals first | (exfalso; omega) | ((first | exact Fin.q Try.results39 (.cons (.tmp rfl) (.cons (.tmp rfl) (.cons (.tmp rfl) .nil))) [] | refine Fin.q Try.results39 (.cons (.tmp rfl) (.cons (.tmp rfl) (.cons (.tmp rfl) .nil))) [] (hr := (.tupL (.cons (.t ?_) (.cons (.t ?_) (.cons (.t ?_) .nil))))) | refine Fin.mkv (rs := _) Try.results39 (.cons (.tmp rfl) (.cons (.tmp rfl) (.cons (.tmp rfl) .nil))) [] (by decide) rfl ?_ ?_ ?_ <;> repeat' (skip; first | exact .nil | refine .cons rfl ?_ ?_ | refine .cons ?_ ?_ | refine .row ?_ | refine .rset ?_ | refine .box ?_ | exact .gone | refine .aggL ?_ | refine .tupL ?_ | refine .old rfl ?_ | refine .new rfl rfl rfl ?_ | exact .nl | exact .optr rfl | exact .nptr rfl rfl rfl | refine .t ?_ | exact .any _ | rfl)))
 ·obtain ⟨t0, t1, b1, z0, z1⟩ := whatC_in h
  have hX : a < 3 ∨ (3 ≤ a ∧ a - 3 < c.threads) ∨ (c.threads ≤ a - 3 ∧ a - 3 < 6 * c.threads) ∨ (6 * c.threads ≤ a - 3 ∧ a - 3 < 7 * c.threads) ∨ (7 * c.threads ≤ a - 3 ∧ a - 3 < 8 * c.threads) ∨ (8 * c.threads ≤ a - 3 ∧ a - 3 < 9 * c.threads) ∨ (9 * c.threads ≤ a - 3 ∧ (a - 3 - 9 * c.threads) % (1 + sizeC c) = 0) ∨ (9 * c.threads ≤ a - 3 ∧ ¬ (a - 3 - 9 * c.threads) % (1 + sizeC c) = 0) := by
   by_cases g : (a - 3 - 9 * c.threads) % (1 + sizeC c) = 0 <;> omega
  rcases hX with x | ⟨x, y⟩ | ⟨x, y⟩ | ⟨x, y⟩ | ⟨x, y⟩ | ⟨x, y⟩ | ⟨x, y⟩ | ⟨x, y⟩
  ·rw [whatC_r h x]
   refine Cd.enter' Try.func39 rfl Try.ntmps39 rfl ?_
   repeat' (first | ((with_reducible refine kAL ?_); (first | (refine kL 2058 rfl ?_; first | refine uK (c1) ?_) | refine uA ?_ | refine uS 14 (fun hb => ?_) (fun hb => ?_))) | refine uR ?_ | refine uC ?_ | refine kcp rfl (fun hc => ?_) (fun hc => ?_) | refine kcn rfl (fun hc => ?_) (fun hc => ?_) | refine kcb rfl (fun hc => ?_) (fun hc => ?_) | refine kcc rfl (fun hc => ?_) (fun hc => ?_) | refine AW.drawU (id := 20) mixed 0 qR ?_ | refine AW.drawU (id := 21) mixed 0 qR ?_ | fail)
   all_goals first | (exfalso; omega) | ((first | exact Fin.q Try.results39 (.cons (.tmp rfl) (.cons (.tmp rfl) (.cons (.tmp rfl) .nil))) [] | refine Fin.q Try.results39 (.cons (.tmp rfl) (.cons (.tmp rfl) (.cons (.tmp rfl) .nil))) [] (hr := (.tupL (.cons (.t ?_) (.cons (.t ?_) (.cons (.t ?_) .nil))))) | refine Fin.mkv (rs := _) Try.results39 (.cons (.tmp rfl) (.cons (.tmp rfl) (.cons (.tmp rfl) .nil))) [] (by decide) rfl ?_ ?_ ?_ <;> repeat' (skip; first | exact .nil | refine .cons rfl ?_ ?_ | refine .cons ?_ ?_ | refine .row ?_ | refine .rset ?_ | refine .box ?_ | exact .gone | refine .aggL ?_ | refine .tupL ?_ | refine .old rfl ?_ | refine .new rfl rfl rfl ?_ | exact .nl | exact .optr rfl | exact .nptr rfl rfl rfl | refine .t ?_ | exact .any _ | rfl)))
  ·rw [whatC_4 h x y]
   refine Cd.enter' Try.func39 rfl Try.ntmps39 rfl ?_
   repeat' (first | ((with_reducible refine kAL ?_); (first | (refine kL 2058 rfl ?_; first | refine uK (c1) ?_) | refine uA ?_ | refine uS 14 (fun hb => ?_) (fun hb => ?_))) | refine uR ?_ | refine uC ?_ | refine kcp rfl (fun hc => ?_) (fun hc => ?_) | refine kcn rfl (fun hc => ?_) (fun hc => ?_) | refine kcb rfl (fun hc => ?_) (fun hc => ?_) | refine kcc rfl (fun hc => ?_) (fun hc => ?_) | refine AW.drawU (id := 20) mixed 0 qR ?_ | refine AW.drawU (id := 21) mixed 0 qR ?_ | fail)
   all_goals first | (exfalso; omega) | ((first | exact Fin.q Try.results39 (.cons (.tmp rfl) (.cons (.tmp rfl) (.cons (.tmp rfl) .nil))) [] | refine Fin.q Try.results39 (.cons (.tmp rfl) (.cons (.tmp rfl) (.cons (.tmp rfl) .nil))) [] (hr := (.tupL (.cons (.t ?_) (.cons (.t ?_) (.cons (.t ?_) .nil))))) | refine Fin.mkv (rs := _) Try.results39 (.cons (.tmp rfl) (.cons (.tmp rfl) (.cons (.tmp rfl) .nil))) [] (by decide) rfl ?_ ?_ ?_ <;> repeat' (skip; first | exact .nil | refine .cons rfl ?_ ?_ | refine .cons ?_ ?_ | refine .row ?_ | refine .rset ?_ | refine .box ?_ | exact .gone | refine .aggL ?_ | refine .tupL ?_ | refine .old rfl ?_ | refine .new rfl rfl rfl ?_ | exact .nl | exact .optr rfl | exact .nptr rfl rfl rfl | refine .t ?_ | exact .any _ | rfl)))
  ·rw [whatC_5 h t0 x y]
   refine Cd.enter' Try.func39 rfl Try.ntmps39 rfl ?_
   repeat' (first | ((with_reducible refine kAL ?_); (first | (refine kL 2058 rfl ?_; first | refine uK (c1) ?_) | refine uA ?_ | refine uS 14 (fun hb => ?_) (fun hb => ?_))) | refine uR ?_ | refine uC ?_ | refine kcp rfl (fun hc => ?_) (fun hc => ?_) | refine kcn rfl (fun hc => ?_) (fun hc => ?_) | refine kcb rfl (fun hc => ?_) (fun hc => ?_) | refine kcc rfl (fun hc => ?_) (fun hc => ?_) | refine AW.drawU (id := 20) mixed 0 qR ?_ | refine AW.drawU (id := 21) mixed 0 qR ?_ | fail)
   all_goals first | (exfalso; omega) | ((first | exact Fin.q Try.results39 (.cons (.tmp rfl) (.cons (.tmp rfl) (.cons (.tmp rfl) .nil))) [] | refine Fin.q Try.results39 (.cons (.tmp rfl) (.cons (.tmp rfl) (.cons (.tmp rfl) .nil))) [] (hr := (.tupL (.cons (.t ?_) (.cons (.t ?_) (.cons (.t ?_) .nil))))) | refine Fin.mkv (rs := _) Try.results39 (.cons (.tmp rfl) (.cons (.tmp rfl) (.cons (.tmp rfl) .nil))) [] (by decide) rfl ?_ ?_ ?_ <;> repeat' (skip; first | exact .nil | refine .cons rfl ?_ ?_ | refine .cons ?_ ?_ | refine .row ?_ | refine .rset ?_ | refine .box ?_ | exact .gone | refine .aggL ?_ | refine .tupL ?_ | refine .old rfl ?_ | refine .new rfl rfl rfl ?_ | exact .nl | exact .optr rfl | exact .nptr rfl rfl rfl | refine .t ?_ | exact .any _ | rfl)))
  ·rw [whatC_6 h t0 x y]
   refine Cd.enter' Try.func39 rfl Try.ntmps39 rfl ?_
   repeat' (first | ((with_reducible refine kAL ?_); (first | (refine kL 2058 rfl ?_; first | refine uK (c1) ?_) | refine uA ?_ | refine uS 14 (fun hb => ?_) (fun hb => ?_))) | refine uR ?_ | refine uC ?_ | refine kcp rfl (fun hc => ?_) (fun hc => ?_) | refine kcn rfl (fun hc => ?_) (fun hc => ?_) | refine kcb rfl (fun hc => ?_) (fun hc => ?_) | refine kcc rfl (fun hc => ?_) (fun hc => ?_) | refine AW.drawU (id := 20) mixed 0 qR ?_ | refine AW.drawU (id := 21) mixed 0 qR ?_ | fail)
   all_goals first | (exfalso; omega) | ((first | exact Fin.q Try.results39 (.cons (.tmp rfl) (.cons (.tmp rfl) (.cons (.tmp rfl) .nil))) [] | refine Fin.q Try.results39 (.cons (.tmp rfl) (.cons (.tmp rfl) (.cons (.tmp rfl) .nil))) [] (hr := (.tupL (.cons (.t ?_) (.cons (.t ?_) (.cons (.t ?_) .nil))))) | refine Fin.mkv (rs := _) Try.results39 (.cons (.tmp rfl) (.cons (.tmp rfl) (.cons (.tmp rfl) .nil))) [] (by decide) rfl ?_ ?_ ?_ <;> repeat' (skip; first | exact .nil | refine .cons rfl ?_ ?_ | refine .cons ?_ ?_ | refine .row ?_ | refine .rset ?_ | refine .box ?_ | exact .gone | refine .aggL ?_ | refine .tupL ?_ | refine .old rfl ?_ | refine .new rfl rfl rfl ?_ | exact .nl | exact .optr rfl | exact .nptr rfl rfl rfl | refine .t ?_ | exact .any _ | rfl)))
  ·rw [whatC_7 h t0 x y]
   refine Cd.enter' Try.func39 rfl Try.ntmps39 rfl ?_
   repeat' (first | ((with_reducible refine kAL ?_); (first | (refine kL 2058 rfl ?_; first | refine uK (c1) ?_) | refine uA ?_ | refine uS 14 (fun hb => ?_) (fun hb => ?_))) | refine uR ?_ | refine uC ?_ | refine kcp rfl (fun hc => ?_) (fun hc => ?_) | refine kcn rfl (fun hc => ?_) (fun hc => ?_) | refine kcb rfl (fun hc => ?_) (fun hc => ?_) | refine kcc rfl (fun hc => ?_) (fun hc => ?_) | refine AW.drawU (id := 20) mixed 0 qR ?_ | refine AW.drawU (id := 21) mixed 0 qR ?_ | fail)
   all_goals first | (exfalso; omega) | ((first | exact Fin.q Try.results39 (.cons (.tmp rfl) (.cons (.tmp rfl) (.cons (.tmp rfl) .nil))) [] | refine Fin.q Try.results39 (.cons (.tmp rfl) (.cons (.tmp rfl) (.cons (.tmp rfl) .nil))) [] (hr := (.tupL (.cons (.t ?_) (.cons (.t ?_) (.cons (.t ?_) .nil))))) | refine Fin.mkv (rs := _) Try.results39 (.cons (.tmp rfl) (.cons (.tmp rfl) (.cons (.tmp rfl) .nil))) [] (by decide) rfl ?_ ?_ ?_ <;> repeat' (skip; first | exact .nil | refine .cons rfl ?_ ?_ | refine .cons ?_ ?_ | refine .row ?_ | refine .rset ?_ | refine .box ?_ | exact .gone | refine .aggL ?_ | refine .tupL ?_ | refine .old rfl ?_ | refine .new rfl rfl rfl ?_ | exact .nl | exact .optr rfl | exact .nptr rfl rfl rfl | refine .t ?_ | exact .any _ | rfl)))
  ·rw [whatC_8 h t0 x y]
   refine Cd.enter' Try.func39 rfl Try.ntmps39 rfl ?_
   repeat' (first | ((with_reducible refine kAL ?_); (first | (refine kL 2058 rfl ?_; first | refine uK (c1) ?_) | refine uA ?_ | refine uS 14 (fun hb => ?_) (fun hb => ?_))) | refine uR ?_ | refine uC ?_ | refine kcp rfl (fun hc => ?_) (fun hc => ?_) | refine kcn rfl (fun hc => ?_) (fun hc => ?_) | refine kcb rfl (fun hc => ?_) (fun hc => ?_) | refine kcc rfl (fun hc => ?_) (fun hc => ?_) | refine AW.drawU (id := 20) mixed 0 qR ?_ | refine AW.drawU (id := 21) mixed 0 qR ?_ | fail)
   all_goals first | (exfalso; omega) | ((first | exact Fin.q Try.results39 (.cons (.tmp rfl) (.cons (.tmp rfl) (.cons (.tmp rfl) .nil))) [] | refine Fin.q Try.results39 (.cons (.tmp rfl) (.cons (.tmp rfl) (.cons (.tmp rfl) .nil))) [] (hr := (.tupL (.cons (.t ?_) (.cons (.t ?_) (.cons (.t ?_) .nil))))) | refine Fin.mkv (rs := _) Try.results39 (.cons (.tmp rfl) (.cons (.tmp rfl) (.cons (.tmp rfl) .nil))) [] (by decide) rfl ?_ ?_ ?_ <;> repeat' (skip; first | exact .nil | refine .cons rfl ?_ ?_ | refine .cons ?_ ?_ | refine .row ?_ | refine .rset ?_ | refine .box ?_ | exact .gone | refine .aggL ?_ | refine .tupL ?_ | refine .old rfl ?_ | refine .new rfl rfl rfl ?_ | exact .nl | exact .optr rfl | exact .nptr rfl rfl rfl | refine .t ?_ | exact .any _ | rfl)))
  ·rw [whatC_9 h t0 x y]
   generalize sizeC c = z at *
   refine Cd.enter' Try.func39 rfl Try.ntmps39 rfl ?_
   repeat' (first | ((with_reducible refine kAL ?_); (first | (refine kL 2058 rfl ?_; first | refine uK (c1) ?_) | (refine kL 2090 rfl ?_; first | refine uK (c2) ?_) | refine uA ?_ | refine uS 14 (fun hb => ?_) (fun hb => ?_))) | refine uR ?_ | refine uC ?_ | refine kcp rfl (fun hc => ?_) (fun hc => ?_) | refine kcn rfl (fun hc => ?_) (fun hc => ?_) | refine kcb rfl (fun hc => ?_) (fun hc => ?_) | refine kcc rfl (fun hc => ?_) (fun hc => ?_) | refine AW.drawU (id := 20) mixed 0 qR ?_ | refine AW.drawU (id := 21) mixed 0 qR ?_ | fail)
   all_goals first | (exfalso; omega) | ((first | exact Fin.q Try.results39 (.cons (.tmp rfl) (.cons (.tmp rfl) (.cons (.tmp rfl) .nil))) [] | refine Fin.q Try.results39 (.cons (.tmp rfl) (.cons (.tmp rfl) (.cons (.tmp rfl) .nil))) [] (hr := (.tupL (.cons (.t ?_) (.cons (.t ?_) (.cons (.t ?_) .nil))))) | refine Fin.mkv (rs := _) Try.results39 (.cons (.tmp rfl) (.cons (.tmp rfl) (.cons (.tmp rfl) .nil))) [] (by decide) rfl ?_ ?_ ?_ <;> repeat' (skip; first | exact .nil | refine .cons rfl ?_ ?_ | refine .cons ?_ ?_ | refine .row ?_ | refine .rset ?_ | refine .box ?_ | exact .gone | refine .aggL ?_ | refine .tupL ?_ | refine .old rfl ?_ | refine .new rfl rfl rfl ?_ | exact .nl | exact .optr rfl | exact .nptr rfl rfl rfl | refine .t ?_ | exact .any _ | rfl)))
  ·rw [whatC_10 h t0 x y]
   generalize sizeC c = z at *
   have hr := Int.emod_nonneg (a - 3 - 9 * c.threads) (b := 1 + z) (by omega)
   have hr2 := Int.emod_lt_of_pos (a - 3 - 9 * c.threads) (b := 1 + z) (by omega)
   refine Cd.enter' Try.func39 rfl Try.ntmps39 rfl ?_
   repeat' (first | ((with_reducible refine kAL ?_); (first | (refine kL 2058 rfl ?_; first | refine uK (c1) ?_) | (refine kL 2090 rfl ?_; first | refine uK (c2) ?_) | refine uA ?_ | refine uS 14 (fun hb => ?_) (fun hb => ?_))) | refine uR ?_ | refine uC ?_ | refine kcp rfl (fun hc => ?_) (fun hc => ?_) | refine kcn rfl (fun hc => ?_) (fun hc => ?_) | refine kcb rfl (fun hc => ?_) (fun hc => ?_) | refine kcc rfl (fun hc => ?_) (fun hc => ?_) | refine AW.drawU (id := 20) mixed 0 qR ?_ | refine AW.drawU (id := 21) mixed 0 qR ?_ | fail)
   all_goals first | (exfalso; omega) | ((first | exact Fin.q Try.results39 (.cons (.tmp rfl) (.cons (.tmp rfl) (.cons (.tmp rfl) .nil))) [] | refine Fin.q Try.results39 (.cons (.tmp rfl) (.cons (.tmp rfl) (.cons (.tmp rfl) .nil))) [] (hr := (.tupL (.cons (.t ?_) (.cons (.t ?_) (.cons (.t ?_) .nil))))) | refine Fin.mkv (rs := _) Try.results39 (.cons (.tmp rfl) (.cons (.tmp rfl) (.cons (.tmp rfl) .nil))) [] (by decide) rfl ?_ ?_ ?_ <;> repeat' (skip; first | exact .nil | refine .cons rfl ?_ ?_ | refine .cons ?_ ?_ | refine .row ?_ | refine .rset ?_ | refine .box ?_ | exact .gone | refine .aggL ?_ | refine .tupL ?_ | refine .old rfl ?_ | refine .new rfl rfl rfl ?_ | exact .nl | exact .optr rfl | exact .nptr rfl rfl rfl | refine .t ?_ | exact .any _ | rfl)))
def bndW (T : Int) : Nat → Int
 | 0 => 0
 | 1 => T
 | n + 2 => (6 + (n : Int)) * T
theorem what_c (c : DConf) (hs : c.start.length ≤ 1152921504606846976) (a : Int) (ha : -9223372036854775808 ≤ a ∧ a ≤ 9223372036854775807) : Cd Try.prog 66 [aCf c, i64 a] (aW (whatC c a)) [] := by
 have c1 := totL_c c hs
 have c2 := size_c c hs
 by_cases h : a < 0 ∨ totL c ≤ a
 ·rw [whatC_n h]
  by_cases h0 : a < 0
  all_goals
   refine Cd.enter' Try.func66 rfl Try.ntmps66 rfl ?_
   repeat' (first | ((with_reducible refine kAL ?_); (first | (refine kL 2666 rfl ?_; first | refine uK (c1) ?_) | refine uA ?_ | refine uS 15 (fun hb => ?_) (fun hb => ?_) | refine uS 38 (fun hb => ?_) (fun hb => ?_))) | refine uR ?_ | refine uC ?_ | refine kcp rfl (fun hc => ?_) (fun hc => ?_) | refine kcn rfl (fun hc => ?_) (fun hc => ?_) | refine kcb rfl (fun hc => ?_) (fun hc => ?_) | refine kcc rfl (fun hc => ?_) (fun hc => ?_) | refine AW.drawU (id := 13) mixed 0 qR ?_ | refine AW.drawU (id := 18) mixed 0 qR ?_ | refine AW.drawU (id := 19) mixed 0 qR ?_ | fail)
   all_goals first | (exfalso; omega) | ((first | exact Fin.q Try.results66 (.cons (.tmp rfl) (.cons (.tmp rfl) (.cons (.tmp rfl) .nil))) [] | refine Fin.q Try.results66 (.cons (.tmp rfl) (.cons (.tmp rfl) (.cons (.tmp rfl) .nil))) [] (hr := (.tupL (.cons (.t ?_) (.cons (.t ?_) (.cons (.t ?_) .nil))))) | refine Fin.mkv (rs := _) Try.results66 (.cons (.tmp rfl) (.cons (.tmp rfl) (.cons (.tmp rfl) .nil))) [] (by decide) rfl ?_ ?_ ?_ <;> repeat' (skip; first | exact .nil | refine .cons rfl ?_ ?_ | refine .cons ?_ ?_ | refine .row ?_ | refine .rset ?_ | refine .box ?_ | exact .gone | refine .aggL ?_ | refine .tupL ?_ | refine .old rfl ?_ | refine .new rfl rfl rfl ?_ | exact .nl | exact .optr rfl | exact .nptr rfl rfl rfl | refine .t ?_ | exact .any _ | rfl)))
 ·obtain ⟨t0, t1, b1, z0, z1⟩ := whatC_in h
  by_cases h3 : a < 3
  ·rw [whatC_r h h3, Int.add_comm a 1]
   refine Cd.enter' Try.func66 rfl Try.ntmps66 rfl ?_
   repeat' (first | ((with_reducible refine kAL ?_); (first | (refine kL 2666 rfl ?_; first | refine uK (c1) ?_) | refine uA ?_ | refine uS 15 (fun hb => ?_) (fun hb => ?_) | refine uS 38 (fun hb => ?_) (fun hb => ?_))) | refine uR ?_ | refine uC ?_ | refine kcp rfl (fun hc => ?_) (fun hc => ?_) | refine kcn rfl (fun hc => ?_) (fun hc => ?_) | refine kcb rfl (fun hc => ?_) (fun hc => ?_) | refine kcc rfl (fun hc => ?_) (fun hc => ?_) | refine AW.drawU (id := 13) mixed 0 qR ?_ | refine AW.drawU (id := 18) mixed 0 qR ?_ | refine AW.drawU (id := 19) mixed 0 qR ?_ | fail)
   all_goals first | (exfalso; omega) | ((first | exact Fin.q Try.results66 (.cons (.tmp rfl) (.cons (.tmp rfl) (.cons (.tmp rfl) .nil))) [] | refine Fin.q Try.results66 (.cons (.tmp rfl) (.cons (.tmp rfl) (.cons (.tmp rfl) .nil))) [] (hr := (.tupL (.cons (.t ?_) (.cons (.t ?_) (.cons (.t ?_) .nil))))) | refine Fin.mkv (rs := _) Try.results66 (.cons (.tmp rfl) (.cons (.tmp rfl) (.cons (.tmp rfl) .nil))) [] (by decide) rfl ?_ ?_ ?_ <;> repeat' (skip; first | exact .nil | refine .cons rfl ?_ ?_ | refine .cons ?_ ?_ | refine .row ?_ | refine .rset ?_ | refine .box ?_ | exact .gone | refine .aggL ?_ | refine .tupL ?_ | refine .old rfl ?_ | refine .new rfl rfl rfl ?_ | exact .nl | exact .optr rfl | exact .nptr rfl rfl rfl | refine .t ?_ | exact .any _ | rfl)))
  ·have f4 := first4_c c
   have f5 := first5_c c
   have f6 := first6_c c
   have f7 := first7_c c
   have f8 := first8_c c
   have f9 := first9_c c
   rw [Wi_in (by omega)] at f5
   rw [Wi_in (x := c.threads * 6) (by omega), Wi_in (by omega)] at f6
   rw [Wi_in (x := c.threads * 7) (by omega), Wi_in (by omega)] at f7
   rw [Wi_in (x := c.threads * 8) (by omega), Wi_in (by omega)] at f8
   rw [Wi_in (x := c.threads * 9) (by omega), Wi_in (by omega)] at f9
   have w4 := whatC_4 h (by omega)
   have w5 := whatC_5 h t0
   have w6 := whatC_6 h t0
   have w7 := whatC_7 h t0
   have w8 := whatC_8 h t0
   have w9 := whatC_9 h t0
   have w10 := whatC_10 h t0
   generalize whatC c a = w at *
   generalize sizeC c = z at *
   have hr := Int.emod_nonneg (a - 3 - 9 * c.threads) (b := 1 + z) (by omega)
   have hr2 := Int.emod_lt_of_pos (a - 3 - 9 * c.threads) (b := 1 + z) (by omega)
   refine Cd.enter' Try.func66 rfl Try.ntmps66 rfl ?_
   repeat' (first | ((with_reducible refine kAL ?_); (first | (refine kL 2666 rfl ?_; first | refine uK (c1) ?_) | refine uA ?_ | refine uS 15 (fun hb => ?_) (fun hb => ?_) | refine uS 38 (fun hb => ?_) (fun hb => ?_))) | refine uR ?_ | refine uC ?_ | refine kcp rfl (fun hc => ?_) (fun hc => ?_) | refine kcn rfl (fun hc => ?_) (fun hc => ?_) | refine kcb rfl (fun hc => ?_) (fun hc => ?_) | refine kcc rfl (fun hc => ?_) (fun hc => ?_) | refine AW.drawU (id := 13) mixed 0 qR ?_ | refine AW.drawU (id := 18) mixed 0 qR ?_ | refine AW.drawU (id := 19) mixed 0 qR ?_ | fail)
   all_goals first | (exfalso; omega) | skip
   refine AW.loopP (fun (i : Nat) => i ≤ 5 ∧ bndW c.threads i ≤ a - 3) (fun (i : Nat) => (pu (pu (pu (pu (fun _ => .any) 1 (i64 a)) 2 (.ptr 0 0)) 25 (.agg [i64 4, i64 5, i64 6, i64 7, i64 8])) 26 (i64 i))) (fun (i : Nat) => [.box 79 [i64 c.kind, i64 c.threads, i64 c.chans, i64 c.cap, i64 c.nodes, i64 c.retire, i64 c.patience, i64 c.tags, i64 c.seqs, i64 c.gens, .ln (c.start.map tI)]]) (fun (i : Nat) => 5 - i) (0) ?_ ?_ ?_
   ·exact ⟨by omega, by show (0 : Int) ≤ _; omega⟩
   ·exact Wk.cq 1
   ·rintro i ⟨hi, hb⟩
    have hX : i = 0 ∨ i = 1 ∨ i = 2 ∨ i = 3 ∨ i = 4 ∨ i = 5 := by omega
    rcases hX with rfl | rfl | rfl | rfl | rfl | rfl
    ·replace hb : 0 ≤ a - 3 := hb
     by_cases y : a - 3 < c.threads
     ·rw [w4 y, show (a - 3, (0 : Int)) = ((a - 3) / 1, (a - 3) % 1) by rw [Int.ediv_one, Int.emod_one]]
      repeat' (first | ((with_reducible refine kAL ?_); (first | (refine kL 2698 rfl ?_; first | refine uK (f4) ?_) | refine uA ?_ | refine uS 15 (fun hb => ?_) (fun hb => ?_) | refine uS 38 (fun hb => ?_) (fun hb => ?_))) | refine uR ?_ | refine uC ?_ | refine kcp rfl (fun hc => ?_) (fun hc => ?_) | refine kcn rfl (fun hc => ?_) (fun hc => ?_) | refine kcb rfl (fun hc => ?_) (fun hc => ?_) | refine kcc rfl (fun hc => ?_) (fun hc => ?_) | refine AW.drawU (id := 13) mixed 0 qR ?_ | refine AW.drawU (id := 18) mixed 0 qR ?_ | refine AW.drawU (id := 19) mixed 0 qR ?_ | fail)
      all_goals first | (exfalso; omega) | ((first | exact Fin.q Try.results66 (.cons (.tmp rfl) (.cons (.tmp rfl) (.cons (.tmp rfl) .nil))) [] | refine Fin.q Try.results66 (.cons (.tmp rfl) (.cons (.tmp rfl) (.cons (.tmp rfl) .nil))) [] (hr := (.tupL (.cons (.t ?_) (.cons (.t ?_) (.cons (.t ?_) .nil))))) | refine Fin.mkv (rs := _) Try.results66 (.cons (.tmp rfl) (.cons (.tmp rfl) (.cons (.tmp rfl) .nil))) [] (by decide) rfl ?_ ?_ ?_ <;> repeat' (skip; first | exact .nil | refine .cons rfl ?_ ?_ | refine .cons ?_ ?_ | refine .row ?_ | refine .rset ?_ | refine .box ?_ | exact .gone | refine .aggL ?_ | refine .tupL ?_ | refine .old rfl ?_ | refine .new rfl rfl rfl ?_ | exact .nl | exact .optr rfl | exact .nptr rfl rfl rfl | refine .t ?_ | exact .any _ | rfl)))
     ·repeat' (first | ((with_reducible refine kAL ?_); (first | (refine kL 2698 rfl ?_; first | refine uK (f4) ?_) | refine uA ?_ | refine uS 15 (fun hb => ?_) (fun hb => ?_) | refine uS 38 (fun hb => ?_) (fun hb => ?_))) | refine uR ?_ | refine uC ?_ | refine kcp rfl (fun hc => ?_) (fun hc => ?_) | refine kcn rfl (fun hc => ?_) (fun hc => ?_) | refine kcb rfl (fun hc => ?_) (fun hc => ?_) | refine kcc rfl (fun hc => ?_) (fun hc => ?_) | refine AW.drawU (id := 13) mixed 0 qR ?_ | refine AW.drawU (id := 18) mixed 0 qR ?_ | refine AW.drawU (id := 19) mixed 0 qR ?_ | fail)
      all_goals first | (exfalso; omega) | skip
      refine ⟨1, ⟨by omega, by show c.threads ≤ _; omega⟩, by omega, ?_⟩
      exact Wk.cq 1
    ·replace hb : c.threads ≤ a - 3 := hb
     have e : a - (3 + c.threads) = a - 3 - c.threads := by omega
     by_cases y : a - 3 < 6 * c.threads
     ·rw [w5 hb y, ← e]
      repeat' (first | ((with_reducible refine kAL ?_); (first | (refine kL 2698 rfl ?_; first | refine uK (f5) ?_) | refine uA ?_ | refine uS 15 (fun hb => ?_) (fun hb => ?_) | refine uS 38 (fun hb => ?_) (fun hb => ?_))) | refine uR ?_ | refine uC ?_ | refine kcp rfl (fun hc => ?_) (fun hc => ?_) | refine kcn rfl (fun hc => ?_) (fun hc => ?_) | refine kcb rfl (fun hc => ?_) (fun hc => ?_) | refine kcc rfl (fun hc => ?_) (fun hc => ?_) | refine AW.drawU (id := 13) mixed 0 qR ?_ | refine AW.drawU (id := 18) mixed 0 qR ?_ | refine AW.drawU (id := 19) mixed 0 qR ?_ | fail)
      all_goals first | (exfalso; omega) | ((first | exact Fin.q Try.results66 (.cons (.tmp rfl) (.cons (.tmp rfl) (.cons (.tmp rfl) .nil))) [] | refine Fin.q Try.results66 (.cons (.tmp rfl) (.cons (.tmp rfl) (.cons (.tmp rfl) .nil))) [] (hr := (.tupL (.cons (.t ?_) (.cons (.t ?_) (.cons (.t ?_) .nil))))) | refine Fin.mkv (rs := _) Try.results66 (.cons (.tmp rfl) (.cons (.tmp rfl) (.cons (.tmp rfl) .nil))) [] (by decide) rfl ?_ ?_ ?_ <;> repeat' (skip; first | exact .nil | refine .cons rfl ?_ ?_ | refine .cons ?_ ?_ | refine .row ?_ | refine .rset ?_ | refine .box ?_ | exact .gone | refine .aggL ?_ | refine .tupL ?_ | refine .old rfl ?_ | refine .new rfl rfl rfl ?_ | exact .nl | exact .optr rfl | exact .nptr rfl rfl rfl | refine .t ?_ | exact .any _ | rfl)))
     ·repeat' (first | ((with_reducible refine kAL ?_); (first | (refine kL 2698 rfl ?_; first | refine uK (f5) ?_) | refine uA ?_ | refine uS 15 (fun hb => ?_) (fun hb => ?_) | refine uS 38 (fun hb => ?_) (fun hb => ?_))) | refine uR ?_ | refine uC ?_ | refine kcp rfl (fun hc => ?_) (fun hc => ?_) | refine kcn rfl (fun hc => ?_) (fun hc => ?_) | refine kcb rfl (fun hc => ?_) (fun hc => ?_) | refine kcc rfl (fun hc => ?_) (fun hc => ?_) | refine AW.drawU (id := 13) mixed 0 qR ?_ | refine AW.drawU (id := 18) mixed 0 qR ?_ | refine AW.drawU (id := 19) mixed 0 qR ?_ | fail)
      all_goals first | (exfalso; omega) | skip
      refine ⟨2, ⟨by omega, by show 6 * c.threads ≤ _; omega⟩, by omega, ?_⟩
      exact Wk.cq 1
    ·replace hb : 6 * c.threads ≤ a - 3 := hb
     have e : a - (3 + c.threads * 6) = a - 3 - 6 * c.threads := by omega
     by_cases y : a - 3 < 7 * c.threads
     ·rw [w6 hb y, ← e, show (a - (3 + c.threads * 6), (0 : Int)) = ((a - (3 + c.threads * 6)) / 1, (a - (3 + c.threads * 6)) % 1) by rw [Int.ediv_one, Int.emod_one]]
      repeat' (first | ((with_reducible refine kAL ?_); (first | (refine kL 2698 rfl ?_; first | refine uK (f6) ?_) | refine uA ?_ | refine uS 15 (fun hb => ?_) (fun hb => ?_) | refine uS 38 (fun hb => ?_) (fun hb => ?_))) | refine uR ?_ | refine uC ?_ | refine kcp rfl (fun hc => ?_) (fun hc => ?_) | refine kcn rfl (fun hc => ?_) (fun hc => ?_) | refine kcb rfl (fun hc => ?_) (fun hc => ?_) | refine kcc rfl (fun hc => ?_) (fun hc => ?_) | refine AW.drawU (id := 13) mixed 0 qR ?_ | refine AW.drawU (id := 18) mixed 0 qR ?_ | refine AW.drawU (id := 19) mixed 0 qR ?_ | fail)
      all_goals first | (exfalso; omega) | ((first | exact Fin.q Try.results66 (.cons (.tmp rfl) (.cons (.tmp rfl) (.cons (.tmp rfl) .nil))) [] | refine Fin.q Try.results66 (.cons (.tmp rfl) (.cons (.tmp rfl) (.cons (.tmp rfl) .nil))) [] (hr := (.tupL (.cons (.t ?_) (.cons (.t ?_) (.cons (.t ?_) .nil))))) | refine Fin.mkv (rs := _) Try.results66 (.cons (.tmp rfl) (.cons (.tmp rfl) (.cons (.tmp rfl) .nil))) [] (by decide) rfl ?_ ?_ ?_ <;> repeat' (skip; first | exact .nil | refine .cons rfl ?_ ?_ | refine .cons ?_ ?_ | refine .row ?_ | refine .rset ?_ | refine .box ?_ | exact .gone | refine .aggL ?_ | refine .tupL ?_ | refine .old rfl ?_ | refine .new rfl rfl rfl ?_ | exact .nl | exact .optr rfl | exact .nptr rfl rfl rfl | refine .t ?_ | exact .any _ | rfl)))
     ·repeat' (first | ((with_reducible refine kAL ?_); (first | (refine kL 2698 rfl ?_; first | refine uK (f6) ?_) | refine uA ?_ | refine uS 15 (fun hb => ?_) (fun hb => ?_) | refine uS 38 (fun hb => ?_) (fun hb => ?_))) | refine uR ?_ | refine uC ?_ | refine kcp rfl (fun hc => ?_) (fun hc => ?_) | refine kcn rfl (fun hc => ?_) (fun hc => ?_) | refine kcb rfl (fun hc => ?_) (fun hc => ?_) | refine kcc rfl (fun hc => ?_) (fun hc => ?_) | refine AW.drawU (id := 13) mixed 0 qR ?_ | refine AW.drawU (id := 18) mixed 0 qR ?_ | refine AW.drawU (id := 19) mixed 0 qR ?_ | fail)
      all_goals first | (exfalso; omega) | skip
      refine ⟨3, ⟨by omega, by show 7 * c.threads ≤ _; omega⟩, by omega, ?_⟩
      exact Wk.cq 1
    ·replace hb : 7 * c.threads ≤ a - 3 := hb
     have e : a - (3 + c.threads * 7) = a - 3 - 7 * c.threads := by omega
     by_cases y : a - 3 < 8 * c.threads
     ·rw [w7 hb y, ← e, show (a - (3 + c.threads * 7), (0 : Int)) = ((a - (3 + c.threads * 7)) / 1, (a - (3 + c.threads * 7)) % 1) by rw [Int.ediv_one, Int.emod_one]]
      repeat' (first | ((with_reducible refine kAL ?_); (first | (refine kL 2698 rfl ?_; first | refine uK (f7) ?_) | refine uA ?_ | refine uS 15 (fun hb => ?_) (fun hb => ?_) | refine uS 38 (fun hb => ?_) (fun hb => ?_))) | refine uR ?_ | refine uC ?_ | refine kcp rfl (fun hc => ?_) (fun hc => ?_) | refine kcn rfl (fun hc => ?_) (fun hc => ?_) | refine kcb rfl (fun hc => ?_) (fun hc => ?_) | refine kcc rfl (fun hc => ?_) (fun hc => ?_) | refine AW.drawU (id := 13) mixed 0 qR ?_ | refine AW.drawU (id := 18) mixed 0 qR ?_ | refine AW.drawU (id := 19) mixed 0 qR ?_ | fail)
      all_goals first | (exfalso; omega) | ((first | exact Fin.q Try.results66 (.cons (.tmp rfl) (.cons (.tmp rfl) (.cons (.tmp rfl) .nil))) [] | refine Fin.q Try.results66 (.cons (.tmp rfl) (.cons (.tmp rfl) (.cons (.tmp rfl) .nil))) [] (hr := (.tupL (.cons (.t ?_) (.cons (.t ?_) (.cons (.t ?_) .nil))))) | refine Fin.mkv (rs := _) Try.results66 (.cons (.tmp rfl) (.cons (.tmp rfl) (.cons (.tmp rfl) .nil))) [] (by decide) rfl ?_ ?_ ?_ <;> repeat' (skip; first | exact .nil | refine .cons rfl ?_ ?_ | refine .cons ?_ ?_ | refine .row ?_ | refine .rset ?_ | refine .box ?_ | exact .gone | refine .aggL ?_ | refine .tupL ?_ | refine .old rfl ?_ | refine .new rfl rfl rfl ?_ | exact .nl | exact .optr rfl | exact .nptr rfl rfl rfl | refine .t ?_ | exact .any _ | rfl)))
     ·repeat' (first | ((with_reducible refine kAL ?_); (first | (refine kL 2698 rfl ?_; first | refine uK (f7) ?_) | refine uA ?_ | refine uS 15 (fun hb => ?_) (fun hb => ?_) | refine uS 38 (fun hb => ?_) (fun hb => ?_))) | refine uR ?_ | refine uC ?_ | refine kcp rfl (fun hc => ?_) (fun hc => ?_) | refine kcn rfl (fun hc => ?_) (fun hc => ?_) | refine kcb rfl (fun hc => ?_) (fun hc => ?_) | refine kcc rfl (fun hc => ?_) (fun hc => ?_) | refine AW.drawU (id := 13) mixed 0 qR ?_ | refine AW.drawU (id := 18) mixed 0 qR ?_ | refine AW.drawU (id := 19) mixed 0 qR ?_ | fail)
      all_goals first | (exfalso; omega) | skip
      refine ⟨4, ⟨by omega, by show 8 * c.threads ≤ _; omega⟩, by omega, ?_⟩
      exact Wk.cq 1
    ·replace hb : 8 * c.threads ≤ a - 3 := hb
     have e : a - (3 + c.threads * 8) = a - 3 - 8 * c.threads := by omega
     by_cases y : a - 3 < 9 * c.threads
     ·rw [w8 hb y, ← e, show (a - (3 + c.threads * 8), (0 : Int)) = ((a - (3 + c.threads * 8)) / 1, (a - (3 + c.threads * 8)) % 1) by rw [Int.ediv_one, Int.emod_one]]
      repeat' (first | ((with_reducible refine kAL ?_); (first | (refine kL 2698 rfl ?_; first | refine uK (f8) ?_) | refine uA ?_ | refine uS 15 (fun hb => ?_) (fun hb => ?_) | refine uS 38 (fun hb => ?_) (fun hb => ?_))) | refine uR ?_ | refine uC ?_ | refine kcp rfl (fun hc => ?_) (fun hc => ?_) | refine kcn rfl (fun hc => ?_) (fun hc => ?_) | refine kcb rfl (fun hc => ?_) (fun hc => ?_) | refine kcc rfl (fun hc => ?_) (fun hc => ?_) | refine AW.drawU (id := 13) mixed 0 qR ?_ | refine AW.drawU (id := 18) mixed 0 qR ?_ | refine AW.drawU (id := 19) mixed 0 qR ?_ | fail)
      all_goals first | (exfalso; omega) | ((first | exact Fin.q Try.results66 (.cons (.tmp rfl) (.cons (.tmp rfl) (.cons (.tmp rfl) .nil))) [] | refine Fin.q Try.results66 (.cons (.tmp rfl) (.cons (.tmp rfl) (.cons (.tmp rfl) .nil))) [] (hr := (.tupL (.cons (.t ?_) (.cons (.t ?_) (.cons (.t ?_) .nil))))) | refine Fin.mkv (rs := _) Try.results66 (.cons (.tmp rfl) (.cons (.tmp rfl) (.cons (.tmp rfl) .nil))) [] (by decide) rfl ?_ ?_ ?_ <;> repeat' (skip; first | exact .nil | refine .cons rfl ?_ ?_ | refine .cons ?_ ?_ | refine .row ?_ | refine .rset ?_ | refine .box ?_ | exact .gone | refine .aggL ?_ | refine .tupL ?_ | refine .old rfl ?_ | refine .new rfl rfl rfl ?_ | exact .nl | exact .optr rfl | exact .nptr rfl rfl rfl | refine .t ?_ | exact .any _ | rfl)))
     ·repeat' (first | ((with_reducible refine kAL ?_); (first | (refine kL 2698 rfl ?_; first | refine uK (f8) ?_) | refine uA ?_ | refine uS 15 (fun hb => ?_) (fun hb => ?_) | refine uS 38 (fun hb => ?_) (fun hb => ?_))) | refine uR ?_ | refine uC ?_ | refine kcp rfl (fun hc => ?_) (fun hc => ?_) | refine kcn rfl (fun hc => ?_) (fun hc => ?_) | refine kcb rfl (fun hc => ?_) (fun hc => ?_) | refine kcc rfl (fun hc => ?_) (fun hc => ?_) | refine AW.drawU (id := 13) mixed 0 qR ?_ | refine AW.drawU (id := 18) mixed 0 qR ?_ | refine AW.drawU (id := 19) mixed 0 qR ?_ | fail)
      all_goals first | (exfalso; omega) | skip
      refine ⟨5, ⟨by omega, by show 9 * c.threads ≤ _; omega⟩, by omega, ?_⟩
      exact Wk.cq 1
    ·replace hb : 9 * c.threads ≤ a - 3 := hb
     have e : a - (3 + c.threads * 9) = a - 3 - 9 * c.threads := by omega
     by_cases y : (a - 3 - 9 * c.threads) % (1 + z) = 0
     ·rw [w9 hb y, ← e]
      rw [← e] at y hr hr2
      repeat' (first | ((with_reducible refine kAL ?_); (first | (refine kL 2698 rfl ?_; first | refine uK (f9) ?_) | (refine kL 2730 rfl ?_; first | refine uK (c2) ?_) | refine uA ?_ | refine uS 15 (fun hb => ?_) (fun hb => ?_) | refine uS 38 (fun hb => ?_) (fun hb => ?_))) | refine uR ?_ | refine uC ?_ | refine kcp rfl (fun hc => ?_) (fun hc => ?_) | refine kcn rfl (fun hc => ?_) (fun hc => ?_) | refine kcb rfl (fun hc => ?_) (fun hc => ?_) | refine kcc rfl (fun hc => ?_) (fun hc => ?_) | refine AW.drawU (id := 13) mixed 0 qR ?_ | refine AW.drawU (id := 18) mixed 0 qR ?_ | refine AW.drawU (id := 19) mixed 0 qR ?_ | fail)
      all_goals first | (exfalso; omega) | ((first | exact Fin.q Try.results66 (.cons (.tmp rfl) (.cons (.tmp rfl) (.cons (.tmp rfl) .nil))) [] | refine Fin.q Try.results66 (.cons (.tmp rfl) (.cons (.tmp rfl) (.cons (.tmp rfl) .nil))) [] (hr := (.tupL (.cons (.t ?_) (.cons (.t ?_) (.cons (.t ?_) .nil))))) | refine Fin.mkv (rs := _) Try.results66 (.cons (.tmp rfl) (.cons (.tmp rfl) (.cons (.tmp rfl) .nil))) [] (by decide) rfl ?_ ?_ ?_ <;> repeat' (skip; first | exact .nil | refine .cons rfl ?_ ?_ | refine .cons ?_ ?_ | refine .row ?_ | refine .rset ?_ | refine .box ?_ | exact .gone | refine .aggL ?_ | refine .tupL ?_ | refine .old rfl ?_ | refine .new rfl rfl rfl ?_ | exact .nl | exact .optr rfl | exact .nptr rfl rfl rfl | refine .t ?_ | exact .any _ | rfl)))
     ·rw [w10 hb y, ← e]
      rw [← e] at y hr hr2
      repeat' (first | ((with_reducible refine kAL ?_); (first | (refine kL 2698 rfl ?_; first | refine uK (f9) ?_) | (refine kL 2730 rfl ?_; first | refine uK (c2) ?_) | refine uA ?_ | refine uS 15 (fun hb => ?_) (fun hb => ?_) | refine uS 38 (fun hb => ?_) (fun hb => ?_))) | refine uR ?_ | refine uC ?_ | refine kcp rfl (fun hc => ?_) (fun hc => ?_) | refine kcn rfl (fun hc => ?_) (fun hc => ?_) | refine kcb rfl (fun hc => ?_) (fun hc => ?_) | refine kcc rfl (fun hc => ?_) (fun hc => ?_) | refine AW.drawU (id := 13) mixed 0 qR ?_ | refine AW.drawU (id := 18) mixed 0 qR ?_ | refine AW.drawU (id := 19) mixed 0 qR ?_ | fail)
      all_goals first | (exfalso; omega) | ((first | exact Fin.q Try.results66 (.cons (.tmp rfl) (.cons (.tmp rfl) (.cons (.tmp rfl) .nil))) [] | refine Fin.q Try.results66 (.cons (.tmp rfl) (.cons (.tmp rfl) (.cons (.tmp rfl) .nil))) [] (hr := (.tupL (.cons (.t ?_) (.cons (.t ?_) (.cons (.t ?_) .nil))))) | refine Fin.mkv (rs := _) Try.results66 (.cons (.tmp rfl) (.cons (.tmp rfl) (.cons (.tmp rfl) .nil))) [] (by decide) rfl ?_ ?_ ?_ <;> repeat' (skip; first | exact .nil | refine .cons rfl ?_ ?_ | refine .cons ?_ ?_ | refine .row ?_ | refine .rset ?_ | refine .box ?_ | exact .gone | refine .aggL ?_ | refine .tupL ?_ | refine .old rfl ?_ | refine .new rfl rfl rfl ?_ | exact .nl | exact .optr rfl | exact .nptr rfl rfl rfl | refine .t ?_ | exact .any _ | rfl)))
end
section
attribute [local irreducible] AL AW RG Fin C Cd Cio thenQ blockQ retQ
set_option maxRecDepth 100000
theorem has_c (l : List Int) (x : Int) (hl : l.length ≤ 1152921504606846976) : Cd Try.prog 40 [.ln (l.map tI), i64 x] (bo (decide (x ∈ l))) [] := by
 have h1 : (l.map tI).length = l.length := List.length_map _
 refine Cd.enter' Try.func40 rfl Try.ntmps40 rfl ?_
 repeat' (first | refine uA ?_ | refine uC ?_ | refine kcp rfl (fun hc => ?_) (fun hc => ?_) | refine kcn rfl (fun hc => ?_) (fun hc => ?_) | refine kcb rfl (fun hc => ?_) (fun hc => ?_) | refine kcc rfl (fun hc => ?_) (fun hc => ?_) | fail)
 refine AW.loopP (fun (i : Nat) => i ≤ l.length ∧ x ∉ l.take i) (fun (i : Nat) => (pu (pu (pu (pu (pu (fun _ => .any) 1 (i64 x)) 4 (bo false)) 7 (.ln (l.map tI))) 8 (i64 (l.map tI).length)) 9 (i64 i))) (fun (i : Nat) => []) (fun (i : Nat) => l.length - i) (0) ?_ ?_ ?_
 ·exact ⟨Nat.zero_le _, by simp⟩
 ·exact Wk.cq 0
 ·rintro i ⟨h2, h3⟩
  by_cases hi : i < l.length
  ·obtain ⟨a, ha⟩ : ∃ a, l[i]? = some a := ⟨_, List.getElem?_eq_getElem hi⟩
   repeat' (first | refine uA ?_ | refine uC ?_ | refine kcp rfl (fun hc => ?_) (fun hc => ?_) | refine kcn rfl (fun hc => ?_) (fun hc => ?_) | refine kcb rfl (fun hc => ?_) (fun hc => ?_) | refine kcc rfl (fun hc => ?_) (fun hc => ?_) | fail)
   all_goals first | (exfalso; omega) | skip
   ·(first | exact Fin.q Try.results40 (.cons (.tmp rfl) .nil) [] | refine Fin.q Try.results40 (.cons (.tmp rfl) .nil) [] (hr := (.t ?_)) | refine Fin.mkv (rs := _) Try.results40 (.cons (.tmp rfl) .nil) [] (by decide) rfl ?_ ?_ ?_ <;> repeat' (skip; first | exact .nil | refine .cons rfl ?_ ?_ | refine .cons ?_ ?_ | refine .row ?_ | refine .rset ?_ | refine .box ?_ | exact .gone | refine .aggL ?_ | refine .tupL ?_ | refine .old rfl ?_ | refine .new rfl rfl rfl ?_ | exact .nl | exact .optr rfl | exact .nptr rfl rfl rfl | refine .t ?_ | exact .any _ | rfl))
    have : x ∈ l := by rw [← hc]; exact List.mem_of_getElem? ha
    simp [this]
   ·refine ⟨i + 1, ⟨by omega, ?_⟩, by omega, ?_⟩
    ·rw [List.take_add_one, ha]
     simp only [Option.toList_some, List.mem_append, List.mem_singleton, not_or]
     exact ⟨h3, fun e => hc e.symm⟩
    ·exact Wk.cq 0
  ·have e : i = l.length := by omega
   subst e
   rw [List.take_length] at h3
   repeat' (first | refine uA ?_ | refine uC ?_ | refine kcp rfl (fun hc => ?_) (fun hc => ?_) | refine kcn rfl (fun hc => ?_) (fun hc => ?_) | refine kcb rfl (fun hc => ?_) (fun hc => ?_) | refine kcc rfl (fun hc => ?_) (fun hc => ?_) | fail)
   all_goals first | (exfalso; omega) | ((first | exact Fin.q Try.results40 (.cons (.tmp rfl) .nil) [] | refine Fin.q Try.results40 (.cons (.tmp rfl) .nil) [] (hr := (.t ?_)) | refine Fin.mkv (rs := _) Try.results40 (.cons (.tmp rfl) .nil) [] (by decide) rfl ?_ ?_ ?_ <;> repeat' (skip; first | exact .nil | refine .cons rfl ?_ ?_ | refine .cons ?_ ?_ | refine .row ?_ | refine .rset ?_ | refine .box ?_ | exact .gone | refine .aggL ?_ | refine .tupL ?_ | refine .old rfl ?_ | refine .new rfl rfl rfl ?_ | exact .nl | exact .optr rfl | exact .nptr rfl rfl rfl | refine .t ?_ | exact .any _ | rfl)))
   simp [h3]
end
end Go.Proofs.Ytnibnbcmnaflmaa
