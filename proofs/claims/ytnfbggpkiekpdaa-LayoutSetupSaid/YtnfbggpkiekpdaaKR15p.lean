/- Joined: XTNew, XTRefRead. -/
import Derived.Test.YtnfbggpkiekpdaaKR15h
import Derived.Test.YtnfbggpkiekpdaaKR15e
import Derived.Test.YtnfbggpkiekpdaaKR15d
namespace Go.Proofs.Ytnfbggpkiekpdaa
open Go.RowKit
set_option linter.unusedVariables false
set_option linter.unusedSimpArgs false
set_option linter.unnecessarySimpa false
set_option maxRecDepth 100000
set_option maxHeartbeats 64000000
section
attribute [local irreducible] AL AW RG Fin C Cd Cio thenQ blockQ retQ
set_option maxRecDepth 100000
def newS (a : Int) (q : Nat) : DSlot := ⟨IntKind.i64.wrap (a + q), 0⟩
def newL (a : Int) (m : Nat) : List DSlot := (List.range m).map (newS a)
theorem newL_next (a : Int) (q : Nat) : newL a (q + 1) = newL a q ++ [newS a q] := by unfold newL; rw [List.range_succ, List.map_append]; rfl
theorem newL_len (a : Int) (q : Nat) : (newL a q).length = q := by simp [newL]
structure NS where
 q : Nat
 F : List DSlot
 k : Nat
 n : Nat
theorem pnew_c (a n : Int) : Cd Try.prog 83 [i64 a, i64 n] (.agg [i64 0, i64 0, .sl 0 0 (min (max n 0) 64).toNat, .nl, i64 0]) [.row 0 93 2 ((newL a (min (max n 0) 64).toNat).map tSl)] := by
 obtain ⟨m, hm⟩ : ∃ m : Nat, (min (max n 0) 64) = (m : Int) := ⟨(min (max n 0) 64).toNat, by omega⟩
 rw [hm, Int.toNat_natCast]
 have hm64 : m ≤ 64 := by omega
 refine Cd.enter' Try.func83 rfl Try.ntmps83 rfl ?_
 repeat' (first | ((with_reducible refine kAL ?_); (first | (refine kL 12 rfl ?_; first | refine A_append_nlsub rfl rfl _ _ 56 rfl ud56 inf93 rfl rfl rfl rfl (by (try simp only [List.length_map, List.length_append, List.length_cons, List.length_nil]); omega) qB qB List.map_drop.symm (.push qL qN) ?_) | (refine kL 1807 rfl ?_; first | refine A_lit rfl rfl 56 1 _ rfl ud56 inf93 (.cons rfl .nil) (els := [[_, _]]) rfl (by first | exact qN) rfl (Nat.ne_of_beq_eq_false rfl) (Nat.le_of_ble_eq_true rfl) (Nat.le_of_ble_eq_true rfl) (.push qL qN) ?_) | refine uA ?_)) | refine uC ?_ | refine kcp rfl (fun hc => ?_) (fun hc => ?_) | refine kcn rfl (fun hc => ?_) (fun hc => ?_) | refine kcb rfl (fun hc => ?_) (fun hc => ?_) | refine kcc rfl (fun hc => ?_) (fun hc => ?_) | fail)
 refine AW.wk (Wk.ownB 1 2 rfl rfl 93 2 (.push rfl rfl) rfl) ?_
 refine AW.loopP (fun (x : NS) => x.q ≤ m ∧ x.F = newL a x.q ∧ x.n = x.q) (fun (x : NS) => (pu (pu (pu (pu (pu (fun _ => .any) 0 (i64 a)) 4 (.ptr 0 0)) 5 (.ptr 1 0)) 9 (i64 (min (max n 0) 64))) 10 (i64 x.q))) (fun (x : NS) => [.box 59 [i64 0, i64 0, .nl, .nl, i64 0], .box 59 [i64 0, i64 0, .sl 2 x.k x.n, .nl, i64 0], .row x.k 93 2 (x.F.map tSl)]) (fun (x : NS) => m - x.q) (⟨0, [], 0, 0⟩) ?_ ?_ ?_
 ·exact ⟨Nat.zero_le _, rfl, rfl⟩
 ·exact Wk.cq 3
 ·rintro ⟨q, F, k, n'⟩ ⟨h2, h3, h4⟩
  dsimp only at h2 h3 h4 ⊢
  subst h4
  have h5 : (F.map tSl).length = n' := by rw [List.length_map, h3, newL_len]
  have h6 : F.length = n' := by rw [h3, newL_len]
  by_cases hq : n' < m
  ·repeat' (first | ((with_reducible refine kAL ?_); (first | (refine kL 12 rfl ?_; first | refine A_append rfl rfl _ _ 56 rfl ud56 inf93 rfl rfl rfl (by first | exact Nat.le_refl _ | (simp <;> fail) | (simp; omega)) (by first | exact .nl | exact .all rfl (by first | rfl | (simp <;> fail) | (simp; omega)) | exact .lst (by first | exact each_map (fun _ => rfl) | assumption | (simp <;> fail) | fail) | exact .ln (by first | exact each_map (fun _ => rfl) | assumption | (simp <;> fail) | fail) | exact .sl rfl (by first | exact Nat.le_refl _ | (simp <;> fail) | (simp; omega)) | exact .sub rfl (by first | exact Nat.le_refl _ | (simp <;> fail) | (simp; omega))) qB qB (by first | exact app_map (by first | rfl | omega | (simp <;> fail) | fail) | exact app_one (f := tSl) (x := newS a n') (by first | rfl | omega | (simp <;> fail) | fail) | exact qN) qN qS ?_ | refine A_append_nl rfl rfl _ _ 56 rfl ud56 inf93 rfl rfl (by first | exact .nl | exact .all rfl (by first | rfl | (simp <;> fail) | (simp; omega)) | exact .lst (by first | exact each_map (fun _ => rfl) | assumption | (simp <;> fail) | fail) | exact .ln (by first | exact each_map (fun _ => rfl) | assumption | (simp <;> fail) | fail) | exact .sl rfl (by first | exact Nat.le_refl _ | (simp <;> fail) | (simp; omega)) | exact .sub rfl (by first | exact Nat.le_refl _ | (simp <;> fail) | (simp; omega))) qB qB (by first | exact (rfl : _ = List.map tSl [newS a n']) | exact qN) (.push qL qN) qS ?_ | refine A_append_nlsub rfl rfl _ _ 56 rfl ud56 inf93 rfl rfl rfl rfl (by (try simp only [List.length_map, List.length_append, List.length_cons, List.length_nil]); omega) qB qB List.map_drop.symm (.push qL qN) ?_) | (refine kL 1807 rfl ?_; first | refine A_lit rfl rfl 56 1 _ rfl ud56 inf93 (.cons rfl .nil) (els := [[_, _]]) rfl (by first | exact (rfl : _ = List.map tSl [newS a n']) | exact qN) rfl (Nat.ne_of_beq_eq_false rfl) (Nat.le_of_ble_eq_true rfl) (Nat.le_of_ble_eq_true rfl) (.push qL qN) ?_) | (refine kL 1795 rfl ?_; first | refine A_store_rp rfl rfl 56 _ _ rfl inf56 (by decide) rfl rfl (by first | exact map_get (by assumption) | assumption) rfl rfl rfl (Nat.le_of_ble_eq_true rfl) (by first | exact map_set (f := tSl) (x := newS a n') | exact qN) qN ?_) | (refine kL 1891 rfl ?_; first | refine A_store_rp rfl rfl 59 _ _ rfl inf59 (by decide) rfl rfl (by first | exact map_get (by assumption) | assumption) rfl rfl rfl (Nat.le_of_ble_eq_true rfl) (by first | exact map_set (f := tSl) (x := newS a n') | exact qN) qN ?_) | refine uA ?_)) | refine uC ?_ | refine kcp rfl (fun hc => ?_) (fun hc => ?_) | refine kcn rfl (fun hc => ?_) (fun hc => ?_) | refine kcb rfl (fun hc => ?_) (fun hc => ?_) | refine kcc rfl (fun hc => ?_) (fun hc => ?_) | fail)
   all_goals first | (exfalso; omega) | skip
   refine ⟨⟨n' + 1, F ++ [newS a n'], k + 1, n' + 1⟩, ⟨by dsimp only; omega, by dsimp only; rw [newL_next, h3], rfl⟩, by dsimp only; omega, ?_⟩
   exact Wk.cq 3
  ·have e : n' = m := by omega
   subst e
   subst h3
   repeat' (first | ((with_reducible refine kAL ?_); (first | (refine kL 12 rfl ?_; first | refine A_append_nlsub rfl rfl _ _ 56 rfl ud56 inf93 rfl rfl rfl rfl (by (try simp only [List.length_map, List.length_append, List.length_cons, List.length_nil]); omega) qB qB List.map_drop.symm (.push qL qN) ?_) | (refine kL 1807 rfl ?_; first | refine A_lit rfl rfl 56 1 _ rfl ud56 inf93 (.cons rfl .nil) (els := [[_, _]]) rfl (by first | exact qN) rfl (Nat.ne_of_beq_eq_false rfl) (Nat.le_of_ble_eq_true rfl) (Nat.le_of_ble_eq_true rfl) (.push qL qN) ?_) | refine uA ?_)) | refine uC ?_ | refine kcp rfl (fun hc => ?_) (fun hc => ?_) | refine kcn rfl (fun hc => ?_) (fun hc => ?_) | refine kcb rfl (fun hc => ?_) (fun hc => ?_) | refine kcc rfl (fun hc => ?_) (fun hc => ?_) | fail)
   all_goals first | (exfalso; omega) | ((first | exact Fin.q Try.results83 (.cons (.agg rfl rfl ud59 rfl inf59 (us := [_, _, _, _, _]) rfl rfl) .nil) [2] | refine Fin.q Try.results83 (.cons (.agg rfl rfl ud59 rfl inf59 (us := [_, _, _, _, _]) rfl rfl) .nil) [2] (hr := (.t ?_)) | refine Fin.mkv (rs := _) Try.results83 (.cons (.agg rfl rfl ud59 rfl inf59 (us := [_, _, _, _, _]) rfl rfl) .nil) [2] (by decide) rfl ?_ ?_ ?_ <;> repeat' (skip; first | exact .nil | refine .cons rfl ?_ ?_ | refine .cons ?_ ?_ | refine .row ?_ | refine .rset ?_ | refine .box ?_ | exact .gone | refine .aggL ?_ | refine .tupL ?_ | refine .old rfl ?_ | refine .new rfl rfl rfl ?_ | exact .nl | exact .optr rfl | exact .nptr rfl rfl rfl | refine .t ?_ | exact .any _ | rfl)))
theorem rnew_c (a n : Int) : Cd Try.prog 84 [i64 a, i64 n] (.agg [i64 0, i64 0, .sl 0 0 (min (max n 0) 64).toNat, .nl, i64 0]) [.row 0 93 2 ((newL a (min (max n 0) 64).toNat).map tSl)] := by
 obtain ⟨m, hm⟩ : ∃ m : Nat, (min (max n 0) 64) = (m : Int) := ⟨(min (max n 0) 64).toNat, by omega⟩
 rw [hm, Int.toNat_natCast]
 have hm64 : m ≤ 64 := by omega
 refine Cd.enter' Try.func84 rfl Try.ntmps84 rfl ?_
 repeat' (first | ((with_reducible refine kAL ?_); (first | (refine kL 1807 rfl ?_; first | refine A_lit rfl rfl 56 1 _ rfl ud56 inf93 (.cons rfl .nil) (els := [[_, _]]) rfl (by first | exact qN) rfl (Nat.ne_of_beq_eq_false rfl) (Nat.le_of_ble_eq_true rfl) (Nat.le_of_ble_eq_true rfl) (.push qL qN) ?_) | (refine kL 12 rfl ?_; first | refine A_append_nlsub rfl rfl _ _ 56 rfl ud56 inf93 rfl rfl rfl rfl (by (try simp only [List.length_map, List.length_append, List.length_cons, List.length_nil]); omega) qB qB List.map_drop.symm (.push qL qN) ?_) | refine uA ?_ | refine uS 10 (fun hb => ?_) (fun hb => ?_))) | refine uC ?_ | refine kcp rfl (fun hc => ?_) (fun hc => ?_) | refine kcn rfl (fun hc => ?_) (fun hc => ?_) | refine kcb rfl (fun hc => ?_) (fun hc => ?_) | refine kcc rfl (fun hc => ?_) (fun hc => ?_) | fail)
 refine AW.wk (Wk.ownB 1 2 rfl rfl 93 2 (.push rfl rfl) rfl) ?_
 refine AW.loopP (fun (x : NS) => x.q ≤ m ∧ x.F = newL a x.q ∧ x.n = x.q) (fun (x : NS) => (pu (pu (pu (pu (pu (fun _ => .any) 0 (i64 a)) 1 (i64 n)) 4 (.ptr 0 0)) 5 (.ptr 1 0)) 6 (i64 x.q))) (fun (x : NS) => [.box 59 [i64 0, i64 0, .nl, .nl, i64 0], .box 59 [i64 0, i64 0, .sl 2 x.k x.n, .nl, i64 0], .row x.k 93 2 (x.F.map tSl)]) (fun (x : NS) => m - x.q) (⟨0, [], 0, 0⟩) ?_ ?_ ?_
 ·exact ⟨Nat.zero_le _, rfl, rfl⟩
 ·exact Wk.cq 3
 ·rintro ⟨q, F, k, n'⟩ ⟨h2, h3, h4⟩
  dsimp only at h2 h3 h4 ⊢
  subst h4
  have h5 : (F.map tSl).length = n' := by rw [List.length_map, h3, newL_len]
  have h6 : F.length = n' := by rw [h3, newL_len]
  by_cases hq : n' < m
  ·repeat' (first | ((with_reducible refine kAL ?_); (first | (refine kL 1807 rfl ?_; first | refine A_lit rfl rfl 56 1 _ rfl ud56 inf93 (.cons rfl .nil) (els := [[_, _]]) rfl (by first | exact (rfl : _ = List.map tSl [newS a n']) | exact qN) rfl (Nat.ne_of_beq_eq_false rfl) (Nat.le_of_ble_eq_true rfl) (Nat.le_of_ble_eq_true rfl) (.push qL qN) ?_) | (refine kL 12 rfl ?_; first | refine A_append rfl rfl _ _ 56 rfl ud56 inf93 rfl rfl rfl (by first | exact Nat.le_refl _ | (simp <;> fail) | (simp; omega)) (by first | exact .nl | exact .all rfl (by first | rfl | (simp <;> fail) | (simp; omega)) | exact .lst (by first | exact each_map (fun _ => rfl) | assumption | (simp <;> fail) | fail) | exact .ln (by first | exact each_map (fun _ => rfl) | assumption | (simp <;> fail) | fail) | exact .sl rfl (by first | exact Nat.le_refl _ | (simp <;> fail) | (simp; omega)) | exact .sub rfl (by first | exact Nat.le_refl _ | (simp <;> fail) | (simp; omega))) qB qB (by first | exact app_map (by first | rfl | omega | (simp <;> fail) | fail) | exact app_one (f := tSl) (x := newS a n') (by first | rfl | omega | (simp <;> fail) | fail) | exact qN) qN qS ?_ | refine A_append_nl rfl rfl _ _ 56 rfl ud56 inf93 rfl rfl (by first | exact .nl | exact .all rfl (by first | rfl | (simp <;> fail) | (simp; omega)) | exact .lst (by first | exact each_map (fun _ => rfl) | assumption | (simp <;> fail) | fail) | exact .ln (by first | exact each_map (fun _ => rfl) | assumption | (simp <;> fail) | fail) | exact .sl rfl (by first | exact Nat.le_refl _ | (simp <;> fail) | (simp; omega)) | exact .sub rfl (by first | exact Nat.le_refl _ | (simp <;> fail) | (simp; omega))) qB qB (by first | exact (rfl : _ = List.map tSl [newS a n']) | exact qN) (.push qL qN) qS ?_ | refine A_append_nlsub rfl rfl _ _ 56 rfl ud56 inf93 rfl rfl rfl rfl (by (try simp only [List.length_map, List.length_append, List.length_cons, List.length_nil]); omega) qB qB List.map_drop.symm (.push qL qN) ?_) | (refine kL 1795 rfl ?_; first | refine A_store_rp rfl rfl 56 _ _ rfl inf56 (by decide) rfl rfl (by first | exact map_get (by assumption) | assumption) rfl rfl rfl (Nat.le_of_ble_eq_true rfl) (by first | exact map_set (f := tSl) (x := newS a n') | exact qN) qN ?_) | (refine kL 1891 rfl ?_; first | refine A_store_rp rfl rfl 59 _ _ rfl inf59 (by decide) rfl rfl (by first | exact map_get (by assumption) | assumption) rfl rfl rfl (Nat.le_of_ble_eq_true rfl) (by first | exact map_set (f := tSl) (x := newS a n') | exact qN) qN ?_) | refine uA ?_ | refine uS 10 (fun hb => ?_) (fun hb => ?_))) | refine uC ?_ | refine kcp rfl (fun hc => ?_) (fun hc => ?_) | refine kcn rfl (fun hc => ?_) (fun hc => ?_) | refine kcb rfl (fun hc => ?_) (fun hc => ?_) | refine kcc rfl (fun hc => ?_) (fun hc => ?_) | fail)
   all_goals first | (exfalso; omega) | skip
   refine ⟨⟨n' + 1, F ++ [newS a n'], k + 1, n' + 1⟩, ⟨by dsimp only; omega, by dsimp only; rw [newL_next, h3], rfl⟩, by dsimp only; omega, ?_⟩
   exact Wk.cq 3
  ·have e : n' = m := by omega
   subst e
   subst h3
   repeat' (first | ((with_reducible refine kAL ?_); (first | (refine kL 1807 rfl ?_; first | refine A_lit rfl rfl 56 1 _ rfl ud56 inf93 (.cons rfl .nil) (els := [[_, _]]) rfl (by first | exact qN) rfl (Nat.ne_of_beq_eq_false rfl) (Nat.le_of_ble_eq_true rfl) (Nat.le_of_ble_eq_true rfl) (.push qL qN) ?_) | (refine kL 12 rfl ?_; first | refine A_append_nlsub rfl rfl _ _ 56 rfl ud56 inf93 rfl rfl rfl rfl (by (try simp only [List.length_map, List.length_append, List.length_cons, List.length_nil]); omega) qB qB List.map_drop.symm (.push qL qN) ?_) | refine uA ?_ | refine uS 10 (fun hb => ?_) (fun hb => ?_))) | refine uC ?_ | refine kcp rfl (fun hc => ?_) (fun hc => ?_) | refine kcn rfl (fun hc => ?_) (fun hc => ?_) | refine kcb rfl (fun hc => ?_) (fun hc => ?_) | refine kcc rfl (fun hc => ?_) (fun hc => ?_) | fail)
   all_goals first | (exfalso; omega) | ((first | exact Fin.q Try.results84 (.cons (.agg rfl rfl ud59 rfl inf59 (us := [_, _, _, _, _]) rfl rfl) .nil) [2] | refine Fin.q Try.results84 (.cons (.agg rfl rfl ud59 rfl inf59 (us := [_, _, _, _, _]) rfl rfl) .nil) [2] (hr := (.t ?_)) | refine Fin.mkv (rs := _) Try.results84 (.cons (.agg rfl rfl ud59 rfl inf59 (us := [_, _, _, _, _]) rfl rfl) .nil) [2] (by decide) rfl ?_ ?_ ?_ <;> repeat' (skip; first | exact .nil | refine .cons rfl ?_ ?_ | refine .cons ?_ ?_ | refine .row ?_ | refine .rset ?_ | refine .box ?_ | exact .gone | refine .aggL ?_ | refine .tupL ?_ | refine .old rfl ?_ | refine .new rfl rfl rfl ?_ | exact .nl | exact .optr rfl | exact .nptr rfl rfl rfl | refine .t ?_ | exact .any _ | rfl)))
end
section
attribute [local irreducible] AL AW RG Fin C Cd Cio thenQ blockQ retQ
set_option maxRecDepth 100000
def goodF (i t : Int) : Bool := decide (0 ≤ i ∧ i ≤ 65534 ∧ 1 ≤ t ∧ t ≤ 4294967295)
def wordF (i t : Int) : Int := if goodF i t then t * 65536 + (i + 1) else 0
def refOk (w : Int) : Bool := decide (w % 65536 ≠ 0 ∧ w / 65536 ≠ 0 ∧ w / 65536 ≤ 4294967295)
def refI (w : Int) : Int := if refOk w then w % 65536 - 1 else 0
def refT (w : Int) : Int := if refOk w then w / 65536 else 0
theorem fgood_c (i t : Int) : Cd Try.prog 99 [.agg [i64 i, i64 t]] (bo (goodF i t)) [] := by
 unfold goodF
 have cs : i < 0 ∨ (0 ≤ i ∧ 65534 < i) ∨ (0 ≤ i ∧ i ≤ 65534 ∧ t < 1) ∨ (0 ≤ i ∧ i ≤ 65534 ∧ 1 ≤ t ∧ 4294967295 < t) ∨ (0 ≤ i ∧ i ≤ 65534 ∧ 1 ≤ t ∧ t ≤ 4294967295) := by omega
 rcases cs with h | h | h | h | h
 case inr.inr.inr.inr =>
  rw [decide_eq_true h]
  refine Cd.enter' Try.func99 rfl Try.ntmps99 rfl ?_
  repeat' (first | ((with_reducible refine kAL ?_); (first | refine uA ?_ | refine uS 6 (fun hb => ?_) (fun hb => ?_) | refine uS 11 (fun hb => ?_) (fun hb => ?_) | refine uS 16 (fun hb => ?_) (fun hb => ?_))) | refine uC ?_ | refine kcp rfl (fun hc => ?_) (fun hc => ?_) | refine kcn rfl (fun hc => ?_) (fun hc => ?_) | refine kcb rfl (fun hc => ?_) (fun hc => ?_) | refine kcc rfl (fun hc => ?_) (fun hc => ?_) | fail)
  all_goals first | (exfalso; omega) | ((first | exact Fin.q Try.results99 (.cons (.tmp rfl) .nil) [] | refine Fin.q Try.results99 (.cons (.tmp rfl) .nil) [] (hr := (.t ?_)) | refine Fin.mkv (rs := _) Try.results99 (.cons (.tmp rfl) .nil) [] (by decide) rfl ?_ ?_ ?_ <;> repeat' (skip; first | exact .nil | refine .cons rfl ?_ ?_ | refine .cons ?_ ?_ | refine .row ?_ | refine .rset ?_ | refine .box ?_ | exact .gone | refine .aggL ?_ | refine .tupL ?_ | refine .old rfl ?_ | refine .new rfl rfl rfl ?_ | exact .nl | exact .optr rfl | exact .nptr rfl rfl rfl | refine .t ?_ | exact .any _ | rfl)))
 all_goals
  rw [decide_eq_false (by omega)]
  refine Cd.enter' Try.func99 rfl Try.ntmps99 rfl ?_
  repeat' (first | ((with_reducible refine kAL ?_); (first | refine uA ?_ | refine uS 6 (fun hb => ?_) (fun hb => ?_) | refine uS 11 (fun hb => ?_) (fun hb => ?_) | refine uS 16 (fun hb => ?_) (fun hb => ?_))) | refine uC ?_ | refine kcp rfl (fun hc => ?_) (fun hc => ?_) | refine kcn rfl (fun hc => ?_) (fun hc => ?_) | refine kcb rfl (fun hc => ?_) (fun hc => ?_) | refine kcc rfl (fun hc => ?_) (fun hc => ?_) | fail)
  all_goals first | (exfalso; omega) | ((first | exact Fin.q Try.results99 (.cons (.tmp rfl) .nil) [] | refine Fin.q Try.results99 (.cons (.tmp rfl) .nil) [] (hr := (.t ?_)) | refine Fin.mkv (rs := _) Try.results99 (.cons (.tmp rfl) .nil) [] (by decide) rfl ?_ ?_ ?_ <;> repeat' (skip; first | exact .nil | refine .cons rfl ?_ ?_ | refine .cons ?_ ?_ | refine .row ?_ | refine .rset ?_ | refine .box ?_ | exact .gone | refine .aggL ?_ | refine .tupL ?_ | refine .old rfl ?_ | refine .new rfl rfl rfl ?_ | exact .nl | exact .optr rfl | exact .nptr rfl rfl rfl | refine .t ?_ | exact .any _ | rfl)))
theorem fword_c (i t : Int) : Cd Try.prog 78 [.agg [i64 i, i64 t]] (u64 (wordF i t)) [] := by
 have c1 := fgood_c i t
 unfold wordF
 cases h : goodF i t
 ·rw [h] at c1
  rw [if_neg (by simp)]
  refine Cd.enter' Try.func78 rfl Try.ntmps78 rfl ?_
  repeat' (first | ((with_reducible refine kAL ?_); (first | (refine kL 3178 rfl ?_; first | refine uK (c1) ?_) | (refine kL 2217 rfl ?_; first | refine A_shl rfl rfl 69 78 _ _ rfl rfl rfl (by decide) (shl_lit (m := 65536) rfl (by first | exact wi | exact wu)) ?_ | refine A_bits rfl rfl .or 69 69 _ _ rfl rfl rfl rfl (or_sum 16 (M := 65536) rfl (by omega) (by omega) (by omega) (by omega) (by omega) (by omega)) ?_ | refine A_bits rfl rfl .or 69 69 _ _ rfl rfl rfl rfl (or_sum' 16 (M := 65536) rfl (by omega) (by omega) (by omega) (by omega) (by omega) (by omega)) ?_ | refine A_shl rfl rfl 69 78 _ _ rfl rfl rfl (by first | decide | omega) rfl ?_ | refine A_bits rfl rfl .or 69 69 _ _ rfl rfl rfl rfl rfl ?_) | refine uA ?_)) | refine uC ?_ | refine kcp rfl (fun hc => ?_) (fun hc => ?_) | refine kcn rfl (fun hc => ?_) (fun hc => ?_) | refine kcb rfl (fun hc => ?_) (fun hc => ?_) | refine kcc rfl (fun hc => ?_) (fun hc => ?_) | fail)
  all_goals first | (exfalso; omega) | ((first | exact Fin.q Try.results78 (.cons (.tmp rfl) .nil) [] | refine Fin.q Try.results78 (.cons (.tmp rfl) .nil) [] (hr := (.t ?_)) | refine Fin.mkv (rs := _) Try.results78 (.cons (.tmp rfl) .nil) [] (by decide) rfl ?_ ?_ ?_ <;> repeat' (skip; first | exact .nil | refine .cons rfl ?_ ?_ | refine .cons ?_ ?_ | refine .row ?_ | refine .rset ?_ | refine .box ?_ | exact .gone | refine .aggL ?_ | refine .tupL ?_ | refine .old rfl ?_ | refine .new rfl rfl rfl ?_ | exact .nl | exact .optr rfl | exact .nptr rfl rfl rfl | refine .t ?_ | exact .any _ | rfl)))
 ·rw [h] at c1
  rw [if_pos rfl]
  unfold goodF at h
  have hg := of_decide_eq_true h
  refine Cd.enter' Try.func78 rfl Try.ntmps78 rfl ?_
  repeat' (first | ((with_reducible refine kAL ?_); (first | (refine kL 3178 rfl ?_; first | refine uK (c1) ?_) | (refine kL 2217 rfl ?_; first | refine A_shl rfl rfl 69 78 _ _ rfl rfl rfl (by decide) (shl_lit (m := 65536) rfl (by first | exact wi | exact wu)) ?_ | refine A_bits rfl rfl .or 69 69 _ _ rfl rfl rfl rfl (or_sum 16 (M := 65536) rfl (by omega) (by omega) (by omega) (by omega) (by omega) (by omega)) ?_ | refine A_bits rfl rfl .or 69 69 _ _ rfl rfl rfl rfl (or_sum' 16 (M := 65536) rfl (by omega) (by omega) (by omega) (by omega) (by omega) (by omega)) ?_ | refine A_shl rfl rfl 69 78 _ _ rfl rfl rfl (by first | decide | omega) rfl ?_ | refine A_bits rfl rfl .or 69 69 _ _ rfl rfl rfl rfl rfl ?_) | refine uA ?_)) | refine uC ?_ | refine kcp rfl (fun hc => ?_) (fun hc => ?_) | refine kcn rfl (fun hc => ?_) (fun hc => ?_) | refine kcb rfl (fun hc => ?_) (fun hc => ?_) | refine kcc rfl (fun hc => ?_) (fun hc => ?_) | fail)
  all_goals first | (exfalso; omega) | ((first | exact Fin.q Try.results78 (.cons (.tmp rfl) .nil) [] | refine Fin.q Try.results78 (.cons (.tmp rfl) .nil) [] (hr := (.t ?_)) | refine Fin.mkv (rs := _) Try.results78 (.cons (.tmp rfl) .nil) [] (by decide) rfl ?_ ?_ ?_ <;> repeat' (skip; first | exact .nil | refine .cons rfl ?_ ?_ | refine .cons ?_ ?_ | refine .row ?_ | refine .rset ?_ | refine .box ?_ | exact .gone | refine .aggL ?_ | refine .tupL ?_ | refine .old rfl ?_ | refine .new rfl rfl rfl ?_ | exact .nl | exact .optr rfl | exact .nptr rfl rfl rfl | refine .t ?_ | exact .any _ | rfl)))
theorem fread_c (w : Int) (hw : 0 ≤ w ∧ w ≤ 18446744073709551615) : Cd Try.prog 61 [u64 w] (.tup [.agg [i64 (refI w), i64 (refT w)], bo (refOk w)]) [] := by
 have c1 := fword_c (w % 65536 - 1) (w / 65536 % 4294967296)
 unfold refI refT
 cases h : refOk w
 ·unfold refOk at h
  have hn := of_decide_eq_false h
  have hv : wordF (w % 65536 - 1) (w / 65536 % 4294967296) ≠ w ∨ (w = 0 ∧ wordF (w % 65536 - 1) (w / 65536 % 4294967296) = 0) := by
   unfold wordF goodF
   split
   ·rename_i hg
    have hg := of_decide_eq_true hg
    omega
   ·omega
  generalize wordF (w % 65536 - 1) (w / 65536 % 4294967296) = v at *
  rw [if_neg (by simp), if_neg (by simp)]
  clear h hn
  rcases hv with hv | ⟨hv, hv2⟩
  ·refine Cd.enter' Try.func61 rfl Try.ntmps61 rfl ?_
   repeat' (first | ((with_reducible refine kAL ?_); (first | (refine kL 2217 rfl ?_; first | refine A_bits rfl rfl .and 69 69 _ _ rfl rfl rfl rfl (and_lit 16 (M := 65536) rfl rfl (by omega) (by omega) (by omega)) ?_ | refine A_shr rfl rfl 69 78 _ _ rfl rfl rfl (by decide) (fdiv_lit (m := 65536) rfl (by decide)) ?_ | refine A_bits rfl rfl .and 69 69 _ _ rfl rfl rfl rfl (and_lit 32 (M := 4294967296) rfl rfl (by omega) (by omega) (by omega)) ?_ | refine A_bits rfl rfl .and 69 69 _ _ rfl rfl rfl rfl rfl ?_ | refine A_shr rfl rfl 69 78 _ _ rfl rfl rfl (by first | decide | omega) rfl ?_) | (refine kL 2506 rfl ?_; first | refine uK (c1) ?_) | refine uA ?_ | refine uS 18 (fun hb => ?_) (fun hb => ?_))) | refine uC ?_ | refine kcp rfl (fun hc => ?_) (fun hc => ?_) | refine kcn rfl (fun hc => ?_) (fun hc => ?_) | refine kcb rfl (fun hc => ?_) (fun hc => ?_) | refine kcc rfl (fun hc => ?_) (fun hc => ?_) | fail)
   all_goals first | (exfalso; omega) | ((first | exact Fin.q Try.results61 (.cons (.agg rfl rfl ud55 rfl inf55 (us := [_, _]) rfl rfl) (.cons (.tmp rfl) .nil)) [] | refine Fin.q Try.results61 (.cons (.agg rfl rfl ud55 rfl inf55 (us := [_, _]) rfl rfl) (.cons (.tmp rfl) .nil)) [] (hr := (.tupL (.cons (.t ?_) (.cons (.t ?_) .nil)))) | refine Fin.mkv (rs := _) Try.results61 (.cons (.agg rfl rfl ud55 rfl inf55 (us := [_, _]) rfl rfl) (.cons (.tmp rfl) .nil)) [] (by decide) rfl ?_ ?_ ?_ <;> repeat' (skip; first | exact .nil | refine .cons rfl ?_ ?_ | refine .cons ?_ ?_ | refine .row ?_ | refine .rset ?_ | refine .box ?_ | exact .gone | refine .aggL ?_ | refine .tupL ?_ | refine .old rfl ?_ | refine .new rfl rfl rfl ?_ | exact .nl | exact .optr rfl | exact .nptr rfl rfl rfl | refine .t ?_ | exact .any _ | rfl)))
  ·subst hv hv2
   refine Cd.enter' Try.func61 rfl Try.ntmps61 rfl ?_
   repeat' (first | ((with_reducible refine kAL ?_); (first | (refine kL 2217 rfl ?_; first | refine A_bits rfl rfl .and 69 69 _ _ rfl rfl rfl rfl (and_lit 16 (M := 65536) rfl rfl (by omega) (by omega) (by omega)) ?_ | refine A_shr rfl rfl 69 78 _ _ rfl rfl rfl (by decide) (fdiv_lit (m := 65536) rfl (by decide)) ?_ | refine A_bits rfl rfl .and 69 69 _ _ rfl rfl rfl rfl (and_lit 32 (M := 4294967296) rfl rfl (by omega) (by omega) (by omega)) ?_ | refine A_bits rfl rfl .and 69 69 _ _ rfl rfl rfl rfl rfl ?_ | refine A_shr rfl rfl 69 78 _ _ rfl rfl rfl (by first | decide | omega) rfl ?_) | (refine kL 2506 rfl ?_; first | refine uK (c1) ?_) | refine uA ?_ | refine uS 18 (fun hb => ?_) (fun hb => ?_))) | refine uC ?_ | refine kcp rfl (fun hc => ?_) (fun hc => ?_) | refine kcn rfl (fun hc => ?_) (fun hc => ?_) | refine kcb rfl (fun hc => ?_) (fun hc => ?_) | refine kcc rfl (fun hc => ?_) (fun hc => ?_) | fail)
   all_goals first | (exfalso; omega) | ((first | exact Fin.q Try.results61 (.cons (.agg rfl rfl ud55 rfl inf55 (us := [_, _]) rfl rfl) (.cons (.tmp rfl) .nil)) [] | refine Fin.q Try.results61 (.cons (.agg rfl rfl ud55 rfl inf55 (us := [_, _]) rfl rfl) (.cons (.tmp rfl) .nil)) [] (hr := (.tupL (.cons (.t ?_) (.cons (.t ?_) .nil)))) | refine Fin.mkv (rs := _) Try.results61 (.cons (.agg rfl rfl ud55 rfl inf55 (us := [_, _]) rfl rfl) (.cons (.tmp rfl) .nil)) [] (by decide) rfl ?_ ?_ ?_ <;> repeat' (skip; first | exact .nil | refine .cons rfl ?_ ?_ | refine .cons ?_ ?_ | refine .row ?_ | refine .rset ?_ | refine .box ?_ | exact .gone | refine .aggL ?_ | refine .tupL ?_ | refine .old rfl ?_ | refine .new rfl rfl rfl ?_ | exact .nl | exact .optr rfl | exact .nptr rfl rfl rfl | refine .t ?_ | exact .any _ | rfl)))
 ·unfold refOk at h
  have hg := of_decide_eq_true h
  have hv : wordF (w % 65536 - 1) (w / 65536 % 4294967296) = w := by
   unfold wordF goodF
   rw [if_pos (decide_eq_true (by omega))]
   omega
  rw [hv] at c1
  rw [if_pos rfl, if_pos rfl]
  have e : w / 65536 % 4294967296 = w / 65536 := by omega
  clear h hv
  rw [← e]
  refine Cd.enter' Try.func61 rfl Try.ntmps61 rfl ?_
  repeat' (first | ((with_reducible refine kAL ?_); (first | (refine kL 2217 rfl ?_; first | refine A_bits rfl rfl .and 69 69 _ _ rfl rfl rfl rfl (and_lit 16 (M := 65536) rfl rfl (by omega) (by omega) (by omega)) ?_ | refine A_shr rfl rfl 69 78 _ _ rfl rfl rfl (by decide) (fdiv_lit (m := 65536) rfl (by decide)) ?_ | refine A_bits rfl rfl .and 69 69 _ _ rfl rfl rfl rfl (and_lit 32 (M := 4294967296) rfl rfl (by omega) (by omega) (by omega)) ?_ | refine A_bits rfl rfl .and 69 69 _ _ rfl rfl rfl rfl rfl ?_ | refine A_shr rfl rfl 69 78 _ _ rfl rfl rfl (by first | decide | omega) rfl ?_) | (refine kL 2506 rfl ?_; first | refine uK (c1) ?_) | refine uA ?_ | refine uS 18 (fun hb => ?_) (fun hb => ?_))) | refine uC ?_ | refine kcp rfl (fun hc => ?_) (fun hc => ?_) | refine kcn rfl (fun hc => ?_) (fun hc => ?_) | refine kcb rfl (fun hc => ?_) (fun hc => ?_) | refine kcc rfl (fun hc => ?_) (fun hc => ?_) | fail)
  all_goals first | (exfalso; omega) | ((first | exact Fin.q Try.results61 (.cons (.agg rfl rfl ud55 rfl inf55 (us := [_, _]) rfl rfl) (.cons (.tmp rfl) .nil)) [] | refine Fin.q Try.results61 (.cons (.agg rfl rfl ud55 rfl inf55 (us := [_, _]) rfl rfl) (.cons (.tmp rfl) .nil)) [] (hr := (.tupL (.cons (.t ?_) (.cons (.t ?_) .nil)))) | refine Fin.mkv (rs := _) Try.results61 (.cons (.agg rfl rfl ud55 rfl inf55 (us := [_, _]) rfl rfl) (.cons (.tmp rfl) .nil)) [] (by decide) rfl ?_ ?_ ?_ <;> repeat' (skip; first | exact .nil | refine .cons rfl ?_ ?_ | refine .cons ?_ ?_ | refine .row ?_ | refine .rset ?_ | refine .box ?_ | exact .gone | refine .aggL ?_ | refine .tupL ?_ | refine .old rfl ?_ | refine .new rfl rfl rfl ?_ | exact .nl | exact .optr rfl | exact .nptr rfl rfl rfl | refine .t ?_ | exact .any _ | rfl)))
theorem fread1_c (w : Int) (hw : 0 ≤ w ∧ w ≤ 18446744073709551615) : Cd Try.prog 63 [u64 w] (.tup [.agg [i64 (refI w), i64 (refT w)], bo (refOk w)]) [] := by
 unfold refI refT refOk
 have cs : w % 65536 = 0 ∨ (w % 65536 ≠ 0 ∧ w / 65536 = 0) ∨ (w % 65536 ≠ 0 ∧ w / 65536 ≠ 0 ∧ 4294967295 < w / 65536) ∨ (w % 65536 ≠ 0 ∧ w / 65536 ≠ 0 ∧ w / 65536 ≤ 4294967295) := by omega
 rcases cs with h | h | h | h
 case inr.inr.inr =>
  rw [decide_eq_true h, if_pos rfl, if_pos rfl]
  refine Cd.enter' Try.func63 rfl Try.ntmps63 rfl ?_
  repeat' (first | ((with_reducible refine kAL ?_); (first | refine uA ?_ | refine uS 12 (fun hb => ?_) (fun hb => ?_) | refine uS 16 (fun hb => ?_) (fun hb => ?_))) | refine uC ?_ | refine kcp rfl (fun hc => ?_) (fun hc => ?_) | refine kcn rfl (fun hc => ?_) (fun hc => ?_) | refine kcb rfl (fun hc => ?_) (fun hc => ?_) | refine kcc rfl (fun hc => ?_) (fun hc => ?_) | fail)
  all_goals first | (exfalso; omega) | ((first | exact Fin.q Try.results63 (.cons (.agg rfl rfl ud55 rfl inf55 (us := [_, _]) rfl rfl) (.cons (.tmp rfl) .nil)) [] | refine Fin.q Try.results63 (.cons (.agg rfl rfl ud55 rfl inf55 (us := [_, _]) rfl rfl) (.cons (.tmp rfl) .nil)) [] (hr := (.tupL (.cons (.t ?_) (.cons (.t ?_) .nil)))) | refine Fin.mkv (rs := _) Try.results63 (.cons (.agg rfl rfl ud55 rfl inf55 (us := [_, _]) rfl rfl) (.cons (.tmp rfl) .nil)) [] (by decide) rfl ?_ ?_ ?_ <;> repeat' (skip; first | exact .nil | refine .cons rfl ?_ ?_ | refine .cons ?_ ?_ | refine .row ?_ | refine .rset ?_ | refine .box ?_ | exact .gone | refine .aggL ?_ | refine .tupL ?_ | refine .old rfl ?_ | refine .new rfl rfl rfl ?_ | exact .nl | exact .optr rfl | exact .nptr rfl rfl rfl | refine .t ?_ | exact .any _ | rfl)))
 all_goals
  rw [decide_eq_false (by omega), if_neg (by simp), if_neg (by simp)]
  refine Cd.enter' Try.func63 rfl Try.ntmps63 rfl ?_
  repeat' (first | ((with_reducible refine kAL ?_); (first | refine uA ?_ | refine uS 12 (fun hb => ?_) (fun hb => ?_) | refine uS 16 (fun hb => ?_) (fun hb => ?_))) | refine uC ?_ | refine kcp rfl (fun hc => ?_) (fun hc => ?_) | refine kcn rfl (fun hc => ?_) (fun hc => ?_) | refine kcb rfl (fun hc => ?_) (fun hc => ?_) | refine kcc rfl (fun hc => ?_) (fun hc => ?_) | fail)
  all_goals first | (exfalso; omega) | ((first | exact Fin.q Try.results63 (.cons (.agg rfl rfl ud55 rfl inf55 (us := [_, _]) rfl rfl) (.cons (.tmp rfl) .nil)) [] | refine Fin.q Try.results63 (.cons (.agg rfl rfl ud55 rfl inf55 (us := [_, _]) rfl rfl) (.cons (.tmp rfl) .nil)) [] (hr := (.tupL (.cons (.t ?_) (.cons (.t ?_) .nil)))) | refine Fin.mkv (rs := _) Try.results63 (.cons (.agg rfl rfl ud55 rfl inf55 (us := [_, _]) rfl rfl) (.cons (.tmp rfl) .nil)) [] (by decide) rfl ?_ ?_ ?_ <;> repeat' (skip; first | exact .nil | refine .cons rfl ?_ ?_ | refine .cons ?_ ?_ | refine .row ?_ | refine .rset ?_ | refine .box ?_ | exact .gone | refine .aggL ?_ | refine .tupL ?_ | refine .old rfl ?_ | refine .new rfl rfl rfl ?_ | exact .nl | exact .optr rfl | exact .nptr rfl rfl rfl | refine .t ?_ | exact .any _ | rfl)))
end
end Go.Proofs.Ytnfbggpkiekpdaa
