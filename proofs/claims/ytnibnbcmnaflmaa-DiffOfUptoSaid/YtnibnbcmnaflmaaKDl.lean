/- Joined: XTDiffA. -/
import Derived.Test.YtnibnbcmnaflmaaKDh
import Derived.Test.YtnibnbcmnaflmaaKDk
import Derived.Test.YtnibnbcmnaflmaaKDd
namespace Go.Proofs.Ytnibnbcmnaflmaa
open Go.RowKit
set_option linter.unusedVariables false
set_option linter.unusedSimpArgs false
set_option linter.unnecessarySimpa false
set_option maxRecDepth 100000
set_option maxHeartbeats 64000000
section
attribute [local irreducible] AL AW RG Fin C Cd Cio thenQ blockQ retQ
set_option maxRecDepth 100000
theorem dOf_c (a b : List Int) (h : a.length = b.length) (ha : a.length ≤ 1048576) : Cd Try.prog 33 [.ln (a.map tU), .ln (b.map tU)] (.tup [.t (.lst ((ofQ a b a.length).map tXg)), i64 0]) [] := by
 have h1 : (a.map tU).length = a.length := List.length_map _
 have h2 : (b.map tU).length = b.length := List.length_map _
 have h0 : Cd Try.prog 33 [.ln (a.map tU), .ln (b.map tU)] (.tup [.sl 0 0 (ofQ a b a.length).length, i64 0]) [.row 0 82 3 ((ofQ a b a.length).map tXg)] := by
  refine Cd.enter' Try.func33 rfl Try.ntmps33 rfl ?_
  repeat' (first | ((with_reducible refine kAL ?_); (first | (refine kL 12 rfl ?_; first | refine A_append_nlsub rfl rfl _ _ 49 rfl ud49 inf82 rfl rfl rfl rfl (by (try simp only [List.length_map, List.length_append, List.length_cons, List.length_nil]); omega) qB qB List.map_drop.symm (.push qL qN) ?_) | (refine kL 1583 rfl ?_; first | refine A_lit rfl rfl 49 1 _ rfl ud49 inf82 (.cons rfl .nil) (els := [[_, _, _]]) rfl (by first | exact qN) rfl (Nat.ne_of_beq_eq_false rfl) (Nat.le_of_ble_eq_true rfl) (Nat.le_of_ble_eq_true rfl) (.push qL qN) ?_) | refine uA ?_)) | refine uC ?_ | refine kcp rfl (fun hc => ?_) (fun hc => ?_) | refine kcn rfl (fun hc => ?_) (fun hc => ?_) | refine kcb rfl (fun hc => ?_) (fun hc => ?_) | refine kcc rfl (fun hc => ?_) (fun hc => ?_) | fail)
  all_goals first | (exfalso; omega) | skip
  refine AW.wk (Wk.own 6 rfl 82 3 (.push rfl rfl)) ?_
  refine AW.loopP (fun (q : Nat) => q ≤ a.length) (fun (q : Nat) => (pu (pu (pu (pu (pu (fun _ => .any) 1 (.ln (b.map tU))) 6 (.sl 0 (ofQ a b q).length (ofQ a b q).length)) 14 (.ln (a.map tU))) 15 (i64 (a.map tU).length)) 16 (i64 q))) (fun (q : Nat) => [.row (ofQ a b q).length 82 3 ((ofQ a b q).map tXg)]) (fun (q : Nat) => a.length - q) (0) ?_ ?_ ?_
  ·exact Nat.zero_le _
  ·exact Wk.cq 1
  ·intro q hq
   by_cases hq2 : q < a.length
   ·obtain ⟨x, hx⟩ : ∃ x, a[q]? = some x := ⟨_, List.getElem?_eq_getElem hq2⟩
    obtain ⟨y, hy⟩ : ∃ y, b[q]? = some y := ⟨_, List.getElem?_eq_getElem (by omega)⟩
    have hL := ofQ_len a b q
    by_cases e : x = y
    ·subst e
     have hn := ofQ_no hx hy
     generalize ofQ a b q = Q at *
     repeat' (first | ((with_reducible refine kAL ?_); (first | (refine kL 12 rfl ?_; first | refine A_append_nlsub rfl rfl _ _ 49 rfl ud49 inf82 rfl rfl rfl rfl (by (try simp only [List.length_map, List.length_append, List.length_cons, List.length_nil]); omega) qB qB List.map_drop.symm (.push qL qN) ?_) | (refine kL 1583 rfl ?_; first | refine A_lit rfl rfl 49 1 _ rfl ud49 inf82 (.cons rfl .nil) (els := [[_, _, _]]) rfl (by first | exact qN) rfl (Nat.ne_of_beq_eq_false rfl) (Nat.le_of_ble_eq_true rfl) (Nat.le_of_ble_eq_true rfl) (.push qL qN) ?_) | refine uA ?_)) | refine uC ?_ | refine kcp rfl (fun hc => ?_) (fun hc => ?_) | refine kcn rfl (fun hc => ?_) (fun hc => ?_) | refine kcb rfl (fun hc => ?_) (fun hc => ?_) | refine kcc rfl (fun hc => ?_) (fun hc => ?_) | fail)
     all_goals first | (exfalso; omega) | skip
     refine ⟨q + 1, by omega, by omega, ?_⟩
     rw [hn]
     exact Wk.cq 1
    ·have hn := ofQ_yes hx hy e
     generalize ofQ a b q = Q at *
     have hL2 : (Q.map tXg).length = Q.length := List.length_map _
     repeat' (first | ((with_reducible refine kAL ?_); (first | (refine kL 12 rfl ?_; first | refine A_append rfl rfl _ _ 49 rfl ud49 inf82 rfl rfl rfl (by first | exact Nat.le_refl _ | (simp <;> fail) | (simp; omega)) (by first | exact .nl | exact .all rfl (by first | rfl | (simp <;> fail) | (simp; omega)) | exact .lst (by first | exact each_map (fun _ => rfl) | assumption | (simp <;> fail) | fail) | exact .ln (by first | exact each_map (fun _ => rfl) | assumption | (simp <;> fail) | fail) | exact .sl rfl (by first | exact Nat.le_refl _ | (simp <;> fail) | (simp; omega)) | exact .sub rfl (by first | exact Nat.le_refl _ | (simp <;> fail) | (simp; omega))) qB qB (by first | exact app_map (by first | rfl | omega | (simp <;> fail) | fail) | exact app_one (f := tXg) (x := ⟨_, _, _⟩) (by first | rfl | omega | (simp <;> fail) | fail) | exact qN) qN qS ?_ | refine A_append_nl rfl rfl _ _ 49 rfl ud49 inf82 rfl rfl (by first | exact .nl | exact .all rfl (by first | rfl | (simp <;> fail) | (simp; omega)) | exact .lst (by first | exact each_map (fun _ => rfl) | assumption | (simp <;> fail) | fail) | exact .ln (by first | exact each_map (fun _ => rfl) | assumption | (simp <;> fail) | fail) | exact .sl rfl (by first | exact Nat.le_refl _ | (simp <;> fail) | (simp; omega)) | exact .sub rfl (by first | exact Nat.le_refl _ | (simp <;> fail) | (simp; omega))) qB qB (by first | exact (rfl : _ = List.map tXg [⟨_, _, _⟩]) | exact qN) (.push qL qN) qS ?_ | refine A_append_nlsub rfl rfl _ _ 49 rfl ud49 inf82 rfl rfl rfl rfl (by (try simp only [List.length_map, List.length_append, List.length_cons, List.length_nil]); omega) qB qB List.map_drop.symm (.push qL qN) ?_) | (refine kL 1583 rfl ?_; first | refine A_lit rfl rfl 49 1 _ rfl ud49 inf82 (.cons rfl .nil) (els := [[_, _, _]]) rfl (by first | exact (rfl : _ = List.map tXg [⟨_, _, _⟩]) | exact qN) rfl (Nat.ne_of_beq_eq_false rfl) (Nat.le_of_ble_eq_true rfl) (Nat.le_of_ble_eq_true rfl) (.push qL qN) ?_) | refine uA ?_)) | refine uC ?_ | refine kcp rfl (fun hc => ?_) (fun hc => ?_) | refine kcn rfl (fun hc => ?_) (fun hc => ?_) | refine kcb rfl (fun hc => ?_) (fun hc => ?_) | refine kcc rfl (fun hc => ?_) (fun hc => ?_) | fail)
     all_goals first | (exfalso; omega) | skip
     refine ⟨q + 1, by omega, by omega, ?_⟩
     rw [hn, List.length_append]
     exact Wk.cq 1
   ·have e : q = a.length := by omega
    subst e
    generalize ofQ a b a.length = Q at *
    repeat' (first | ((with_reducible refine kAL ?_); (first | (refine kL 12 rfl ?_; first | refine A_append_nlsub rfl rfl _ _ 49 rfl ud49 inf82 rfl rfl rfl rfl (by (try simp only [List.length_map, List.length_append, List.length_cons, List.length_nil]); omega) qB qB List.map_drop.symm (.push qL qN) ?_) | (refine kL 1583 rfl ?_; first | refine A_lit rfl rfl 49 1 _ rfl ud49 inf82 (.cons rfl .nil) (els := [[_, _, _]]) rfl (by first | exact qN) rfl (Nat.ne_of_beq_eq_false rfl) (Nat.le_of_ble_eq_true rfl) (Nat.le_of_ble_eq_true rfl) (.push qL qN) ?_) | refine uA ?_)) | refine uC ?_ | refine kcp rfl (fun hc => ?_) (fun hc => ?_) | refine kcn rfl (fun hc => ?_) (fun hc => ?_) | refine kcb rfl (fun hc => ?_) (fun hc => ?_) | refine kcc rfl (fun hc => ?_) (fun hc => ?_) | fail)
    all_goals first | (exfalso; omega) | ((first | exact Fin.q Try.results33 (.cons (.tmp rfl) (.cons (.tmp rfl) .nil)) [0] | refine Fin.q Try.results33 (.cons (.tmp rfl) (.cons (.tmp rfl) .nil)) [0] (hr := (.tupL (.cons (.t ?_) (.cons (.t ?_) .nil)))) | refine Fin.mkv (rs := _) Try.results33 (.cons (.tmp rfl) (.cons (.tmp rfl) .nil)) [0] (by decide) rfl ?_ ?_ ?_ <;> repeat' (skip; first | exact .nil | refine .cons rfl ?_ ?_ | refine .cons ?_ ?_ | refine .row ?_ | refine .rset ?_ | refine .box ?_ | exact .gone | refine .aggL ?_ | refine .tupL ?_ | refine .old rfl ?_ | refine .new rfl rfl rfl ?_ | exact .nl | exact .optr rfl | exact .nptr rfl rfl rfl | refine .t ?_ | exact .any _ | rfl)))
 generalize ofQ a b a.length = Q at *
 have h0' := Cd.frz h0 0 rfl (by repeat' (first | exact FzL.nil | apply FzL.cons | exact FzR.nlt | exact FzR.all (by first | rfl | (simp <;> fail) | (simp; omega)) | exact FzR.sl (by first | exact Nat.le_refl _ | (simp <;> fail) | (simp; omega)) | apply FzR.aggL | exact FzR.same _)) rfl; exact Cd.drop h0' rfl
theorem dOf_cx (a b : List Int) (h : a.length ≠ b.length) (ha : a.length ≤ 1048576) (hb : b.length ≤ 1048576) : Cd Try.prog 33 [.ln (a.map tU), .ln (b.map tU)] (.tup [.nl, i64 4]) [] := by
 have h1 : (a.map tU).length = a.length := List.length_map _
 have h2 : (b.map tU).length = b.length := List.length_map _
 refine Cd.enter' Try.func33 rfl Try.ntmps33 rfl ?_
 repeat' (first | ((with_reducible refine kAL ?_); (first | (refine kL 12 rfl ?_; first | refine A_append_nlsub rfl rfl _ _ 49 rfl ud49 inf82 rfl rfl rfl rfl (by (try simp only [List.length_map, List.length_append, List.length_cons, List.length_nil]); omega) qB qB List.map_drop.symm (.push qL qN) ?_) | (refine kL 1583 rfl ?_; first | refine A_lit rfl rfl 49 1 _ rfl ud49 inf82 (.cons rfl .nil) (els := [[_, _, _]]) rfl (by first | exact qN) rfl (Nat.ne_of_beq_eq_false rfl) (Nat.le_of_ble_eq_true rfl) (Nat.le_of_ble_eq_true rfl) (.push qL qN) ?_) | refine uA ?_)) | refine uC ?_ | refine kcp rfl (fun hc => ?_) (fun hc => ?_) | refine kcn rfl (fun hc => ?_) (fun hc => ?_) | refine kcb rfl (fun hc => ?_) (fun hc => ?_) | refine kcc rfl (fun hc => ?_) (fun hc => ?_) | fail)
 all_goals first | (exfalso; omega) | ((first | exact Fin.q Try.results33 (.cons (.tmp rfl) (.cons (.tmp rfl) .nil)) [] | refine Fin.q Try.results33 (.cons (.tmp rfl) (.cons (.tmp rfl) .nil)) [] (hr := (.tupL (.cons (.t ?_) (.cons (.t ?_) .nil)))) | refine Fin.mkv (rs := _) Try.results33 (.cons (.tmp rfl) (.cons (.tmp rfl) .nil)) [] (by decide) rfl ?_ ?_ ?_ <;> repeat' (skip; first | exact .nil | refine .cons rfl ?_ ?_ | refine .cons ?_ ?_ | refine .row ?_ | refine .rset ?_ | refine .box ?_ | exact .gone | refine .aggL ?_ | refine .tupL ?_ | refine .old rfl ?_ | refine .new rfl rfl rfl ?_ | exact .nl | exact .optr rfl | exact .nptr rfl rfl rfl | refine .t ?_ | exact .any _ | rfl)))
theorem rOf_c (a b : List Int) (h : a.length = b.length) (ha : a.length ≤ 1048576) : Cd Try.prog 34 [.ln (a.map tU), .ln (b.map tU)] (.tup [.t (.lst ((ofQ a b a.length).map tXg)), i64 0]) [] := by
 have h1 : (a.map tU).length = a.length := List.length_map _
 have h2 : (b.map tU).length = b.length := List.length_map _
 have h0 : Cd Try.prog 34 [.ln (a.map tU), .ln (b.map tU)] (.tup [.sl 0 0 (ofQ a b a.length).length, i64 0]) [.row 0 104 3 ((ofQ a b a.length).map tXg)] := by
  refine Cd.enter' Try.func34 rfl Try.ntmps34 rfl ?_
  repeat' (first | refine uA ?_ | ((with_reducible refine kRG ?_); (first | (refine kR 1679 rfl ?_; first | refine R_lit rfl rfl 52 1 _ rfl ud52 inf104 (.cons rfl .nil) (els := [[_, _, _]]) rfl (by first | exact qN) rfl (Nat.ne_of_beq_eq_false rfl) (Nat.le_of_ble_eq_true rfl) (Nat.le_of_ble_eq_true rfl) qh qN ?_) | refine uR ?_)) | refine uC ?_ | refine kcp rfl (fun hc => ?_) (fun hc => ?_) | refine kcn rfl (fun hc => ?_) (fun hc => ?_) | refine kcb rfl (fun hc => ?_) (fun hc => ?_) | refine kcc rfl (fun hc => ?_) (fun hc => ?_) | refine AW.drawU (id := 7) mixed 0 qR ?_ | refine AW.drawU (id := 8) mixed 2 qR ?_ | fail)
  all_goals first | (exfalso; omega) | skip
  refine AW.wk (Wk.own 6 rfl 104 3 (.push rfl rfl)) ?_
  refine AW.loopP (fun (q : Nat) => q ≤ a.length) (fun (q : Nat) => (pu (pu (pu (pu (pu (fun _ => .any) 0 (.ln (a.map tU))) 1 (.ln (b.map tU))) 6 (.sl 0 (ofQ a b q).length (ofQ a b q).length)) 14 (i64 (a.map tU).length)) 15 (i64 q))) (fun (q : Nat) => [.row (ofQ a b q).length 104 3 ((ofQ a b q).map tXg)]) (fun (q : Nat) => a.length - q) (0) ?_ ?_ ?_
  ·exact Nat.zero_le _
  ·exact Wk.cq 1
  ·intro q hq
   by_cases hq2 : q < a.length
   ·obtain ⟨x, hx⟩ : ∃ x, a[q]? = some x := ⟨_, List.getElem?_eq_getElem hq2⟩
    obtain ⟨y, hy⟩ : ∃ y, b[q]? = some y := ⟨_, List.getElem?_eq_getElem (by omega)⟩
    have hL := ofQ_len a b q
    by_cases e : x = y
    ·subst e
     have hn := ofQ_no hx hy
     generalize ofQ a b q = Q at *
     repeat' (first | refine uA ?_ | ((with_reducible refine kRG ?_); (first | (refine kR 1679 rfl ?_; first | refine R_lit rfl rfl 52 1 _ rfl ud52 inf104 (.cons rfl .nil) (els := [[_, _, _]]) rfl (by first | exact qN) rfl (Nat.ne_of_beq_eq_false rfl) (Nat.le_of_ble_eq_true rfl) (Nat.le_of_ble_eq_true rfl) qh qN ?_) | refine uR ?_)) | refine uC ?_ | refine kcp rfl (fun hc => ?_) (fun hc => ?_) | refine kcn rfl (fun hc => ?_) (fun hc => ?_) | refine kcb rfl (fun hc => ?_) (fun hc => ?_) | refine kcc rfl (fun hc => ?_) (fun hc => ?_) | refine AW.drawU (id := 7) mixed 0 qR ?_ | refine AW.drawU (id := 8) mixed 2 qR ?_ | fail)
     all_goals first | (exfalso; omega) | skip
     refine ⟨q + 1, by omega, by omega, ?_⟩
     rw [hn]
     exact Wk.cq 1
    ·have hn := ofQ_yes hx hy e
     generalize ofQ a b q = Q at *
     have hL2 : (Q.map tXg).length = Q.length := List.length_map _
     repeat' (first | refine uA ?_ | ((with_reducible refine kRG ?_); (first | (refine kR 1679 rfl ?_; first | refine R_lit rfl rfl 52 1 _ rfl ud52 inf104 (.cons rfl .nil) (els := [[_, _, _]]) rfl (by first | exact (rfl : _ = List.map tXg [⟨_, _, _⟩]) | exact qN) rfl (Nat.ne_of_beq_eq_false rfl) (Nat.le_of_ble_eq_true rfl) (Nat.le_of_ble_eq_true rfl) qh qN ?_) | (refine kR 12 rfl ?_; first | refine R_append rfl rfl _ _ 52 rfl ud52 inf104 rfl rfl rfl (by first | exact Nat.le_refl _ | (simp <;> fail) | (simp; omega)) (by first | exact .nl | exact .all rfl (by first | rfl | (simp <;> fail) | (simp; omega)) | exact .lst (by first | exact each_map (fun _ => rfl) | assumption | (simp <;> fail) | fail) | exact .ln (by first | exact each_map (fun _ => rfl) | assumption | (simp <;> fail) | fail) | exact .sl rfl (by first | exact Nat.le_refl _ | (simp <;> fail) | (simp; omega)) | exact .sub rfl (by first | exact Nat.le_refl _ | (simp <;> fail) | (simp; omega))) qB qB (by first | exact app_map (by first | rfl | omega | (simp <;> fail) | fail) | exact app_one (f := tXg) (x := ⟨_, _, _⟩) (by first | rfl | omega | (simp <;> fail) | fail) | exact qN) qN qS ?_ | refine R_append_nl rfl rfl _ _ 52 rfl ud52 inf104 rfl rfl (by first | exact .nl | exact .all rfl (by first | rfl | (simp <;> fail) | (simp; omega)) | exact .lst (by first | exact each_map (fun _ => rfl) | assumption | (simp <;> fail) | fail) | exact .ln (by first | exact each_map (fun _ => rfl) | assumption | (simp <;> fail) | fail) | exact .sl rfl (by first | exact Nat.le_refl _ | (simp <;> fail) | (simp; omega)) | exact .sub rfl (by first | exact Nat.le_refl _ | (simp <;> fail) | (simp; omega))) qB qB (by first | exact (rfl : _ = List.map tXg [⟨_, _, _⟩]) | exact qN) qh qN qS ?_) | refine uR ?_)) | refine uC ?_ | refine kcp rfl (fun hc => ?_) (fun hc => ?_) | refine kcn rfl (fun hc => ?_) (fun hc => ?_) | refine kcb rfl (fun hc => ?_) (fun hc => ?_) | refine kcc rfl (fun hc => ?_) (fun hc => ?_) | refine AW.drawU (id := 7) mixed 0 qR ?_ | refine AW.drawU (id := 8) mixed 2 qR ?_ | fail)
     all_goals first | (exfalso; omega) | skip
     refine ⟨q + 1, by omega, by omega, ?_⟩
     rw [hn, List.length_append]
     exact Wk.cq 1
   ·have e : q = a.length := by omega
    subst e
    generalize ofQ a b a.length = Q at *
    repeat' (first | refine uA ?_ | ((with_reducible refine kRG ?_); (first | (refine kR 1679 rfl ?_; first | refine R_lit rfl rfl 52 1 _ rfl ud52 inf104 (.cons rfl .nil) (els := [[_, _, _]]) rfl (by first | exact qN) rfl (Nat.ne_of_beq_eq_false rfl) (Nat.le_of_ble_eq_true rfl) (Nat.le_of_ble_eq_true rfl) qh qN ?_) | refine uR ?_)) | refine uC ?_ | refine kcp rfl (fun hc => ?_) (fun hc => ?_) | refine kcn rfl (fun hc => ?_) (fun hc => ?_) | refine kcb rfl (fun hc => ?_) (fun hc => ?_) | refine kcc rfl (fun hc => ?_) (fun hc => ?_) | refine AW.drawU (id := 7) mixed 0 qR ?_ | refine AW.drawU (id := 8) mixed 2 qR ?_ | fail)
    all_goals first | (exfalso; omega) | ((first | exact Fin.q Try.results34 (.cons (.tmp rfl) (.cons (.tmp rfl) .nil)) [0] | refine Fin.q Try.results34 (.cons (.tmp rfl) (.cons (.tmp rfl) .nil)) [0] (hr := (.tupL (.cons (.t ?_) (.cons (.t ?_) .nil)))) | refine Fin.mkv (rs := _) Try.results34 (.cons (.tmp rfl) (.cons (.tmp rfl) .nil)) [0] (by decide) rfl ?_ ?_ ?_ <;> repeat' (skip; first | exact .nil | refine .cons rfl ?_ ?_ | refine .cons ?_ ?_ | refine .row ?_ | refine .rset ?_ | refine .box ?_ | exact .gone | refine .aggL ?_ | refine .tupL ?_ | refine .old rfl ?_ | refine .new rfl rfl rfl ?_ | exact .nl | exact .optr rfl | exact .nptr rfl rfl rfl | refine .t ?_ | exact .any _ | rfl)))
 generalize ofQ a b a.length = Q at *
 have h0' := Cd.frz h0 0 rfl (by repeat' (first | exact FzL.nil | apply FzL.cons | exact FzR.nlt | exact FzR.all (by first | rfl | (simp <;> fail) | (simp; omega)) | exact FzR.sl (by first | exact Nat.le_refl _ | (simp <;> fail) | (simp; omega)) | apply FzR.aggL | exact FzR.same _)) rfl; exact Cd.drop h0' rfl
theorem rOf_cx (a b : List Int) (h : a.length ≠ b.length) (ha : a.length ≤ 1048576) (hb : b.length ≤ 1048576) : Cd Try.prog 34 [.ln (a.map tU), .ln (b.map tU)] (.tup [.nl, i64 4]) [] := by
 have h1 : (a.map tU).length = a.length := List.length_map _
 have h2 : (b.map tU).length = b.length := List.length_map _
 refine Cd.enter' Try.func34 rfl Try.ntmps34 rfl ?_
 repeat' (first | refine uA ?_ | ((with_reducible refine kRG ?_); (first | (refine kR 1679 rfl ?_; first | refine R_lit rfl rfl 52 1 _ rfl ud52 inf104 (.cons rfl .nil) (els := [[_, _, _]]) rfl (by first | exact qN) rfl (Nat.ne_of_beq_eq_false rfl) (Nat.le_of_ble_eq_true rfl) (Nat.le_of_ble_eq_true rfl) qh qN ?_) | refine uR ?_)) | refine uC ?_ | refine kcp rfl (fun hc => ?_) (fun hc => ?_) | refine kcn rfl (fun hc => ?_) (fun hc => ?_) | refine kcb rfl (fun hc => ?_) (fun hc => ?_) | refine kcc rfl (fun hc => ?_) (fun hc => ?_) | refine AW.drawU (id := 7) mixed 0 qR ?_ | refine AW.drawU (id := 8) mixed 2 qR ?_ | fail)
 all_goals first | (exfalso; omega) | ((first | exact Fin.q Try.results34 (.cons (.tmp rfl) (.cons (.tmp rfl) .nil)) [] | refine Fin.q Try.results34 (.cons (.tmp rfl) (.cons (.tmp rfl) .nil)) [] (hr := (.tupL (.cons (.t ?_) (.cons (.t ?_) .nil)))) | refine Fin.mkv (rs := _) Try.results34 (.cons (.tmp rfl) (.cons (.tmp rfl) .nil)) [] (by decide) rfl ?_ ?_ ?_ <;> repeat' (skip; first | exact .nil | refine .cons rfl ?_ ?_ | refine .cons ?_ ?_ | refine .row ?_ | refine .rset ?_ | refine .box ?_ | exact .gone | refine .aggL ?_ | refine .tupL ?_ | refine .old rfl ?_ | refine .new rfl rfl rfl ?_ | exact .nl | exact .optr rfl | exact .nptr rfl rfl rfl | refine .t ?_ | exact .any _ | rfl)))
theorem dBack_c (l : List DXg) (hl : l.length ≤ 1048576) : Cd Try.prog 38 [.ln (l.map tXg)] (.t (.lst ((bkQ l 0).map tXg))) [] := by
 have h1 : (l.map tXg).length = l.length := List.length_map _
 have h0 : Cd Try.prog 38 [.ln (l.map tXg)] (.sl 0 0 (bkQ l 0).length) [.row 0 82 3 ((bkQ l 0).map tXg)] := by
  refine Cd.enter' Try.func38 rfl Try.ntmps38 rfl ?_
  repeat' (first | ((with_reducible refine kAL ?_); (first | (refine kL 12 rfl ?_; first | refine A_append_nlsub rfl rfl _ _ 49 rfl ud49 inf82 rfl rfl rfl rfl (by (try simp only [List.length_map, List.length_append, List.length_cons, List.length_nil]); omega) qB qB List.map_drop.symm (.push qL qN) ?_) | (refine kL 1583 rfl ?_; first | refine A_lit rfl rfl 49 1 _ rfl ud49 inf82 (.cons rfl .nil) (els := [[_, _, _]]) rfl (by first | exact qN) rfl (Nat.ne_of_beq_eq_false rfl) (Nat.le_of_ble_eq_true rfl) (Nat.le_of_ble_eq_true rfl) (.push qL qN) ?_) | refine uA ?_)) | refine uC ?_ | refine kcp rfl (fun hc => ?_) (fun hc => ?_) | refine kcn rfl (fun hc => ?_) (fun hc => ?_) | refine kcb rfl (fun hc => ?_) (fun hc => ?_) | refine kcc rfl (fun hc => ?_) (fun hc => ?_) | fail)
  all_goals first | (exfalso; omega) | skip
  rw [h1]
  refine AW.wk (Wk.own 3 rfl 82 3 (.push rfl rfl)) ?_
  refine AW.loopP (fun (q : Nat) => q ≤ l.length) (fun (q : Nat) => (pu (pu (pu (fun _ => .any) 0 (.ln (l.map tXg))) 3 (.sl 0 (bkQ l q).length (bkQ l q).length)) 4 (i64 ((q : Int) - 1)))) (fun (q : Nat) => [.row (bkQ l q).length 82 3 ((bkQ l q).map tXg)]) (fun (q : Nat) => q) (l.length) ?_ ?_ ?_
  ·exact Nat.le_refl _
  ·have e : bkQ l l.length = [] := by unfold bkQ; simp
   rw [e]
   exact Wk.cq 1
  ·intro q hq
   by_cases hq2 : 0 < q
   ·obtain ⟨q, rfl⟩ : ∃ p, q = p + 1 := ⟨q - 1, by omega⟩
    obtain ⟨x, hx⟩ : ∃ x, l[q]? = some x := ⟨_, List.getElem?_eq_getElem (by omega)⟩
    have hL := bkQ_len l (q + 1)
    have hn := bkQ_next hx
    generalize bkQ l (q + 1) = Q at *
    have hL2 : (Q.map tXg).length = Q.length := List.length_map _
    obtain ⟨x1, x2, x3⟩ := x
    dsimp only at hn
    have e0 : (((q + 1 : Nat) : Int) - 1) = (q : Int) := by omega
    rw [e0]
    repeat' (first | ((with_reducible refine kAL ?_); (first | (refine kL 12 rfl ?_; first | refine A_append rfl rfl _ _ 49 rfl ud49 inf82 rfl rfl rfl (by first | exact Nat.le_refl _ | (simp <;> fail) | (simp; omega)) (by first | exact .nl | exact .all rfl (by first | rfl | (simp <;> fail) | (simp; omega)) | exact .lst (by first | exact each_map (fun _ => rfl) | assumption | (simp <;> fail) | fail) | exact .ln (by first | exact each_map (fun _ => rfl) | assumption | (simp <;> fail) | fail) | exact .sl rfl (by first | exact Nat.le_refl _ | (simp <;> fail) | (simp; omega)) | exact .sub rfl (by first | exact Nat.le_refl _ | (simp <;> fail) | (simp; omega))) qB qB (by first | exact app_map (by first | rfl | omega | (simp <;> fail) | fail) | exact app_one (f := tXg) (x := ⟨_, _, _⟩) (by first | rfl | omega | (simp <;> fail) | fail) | exact qN) qN qS ?_ | refine A_append_nl rfl rfl _ _ 49 rfl ud49 inf82 rfl rfl (by first | exact .nl | exact .all rfl (by first | rfl | (simp <;> fail) | (simp; omega)) | exact .lst (by first | exact each_map (fun _ => rfl) | assumption | (simp <;> fail) | fail) | exact .ln (by first | exact each_map (fun _ => rfl) | assumption | (simp <;> fail) | fail) | exact .sl rfl (by first | exact Nat.le_refl _ | (simp <;> fail) | (simp; omega)) | exact .sub rfl (by first | exact Nat.le_refl _ | (simp <;> fail) | (simp; omega))) qB qB (by first | exact (rfl : _ = List.map tXg [⟨_, _, _⟩]) | exact qN) (.push qL qN) qS ?_ | refine A_append_nlsub rfl rfl _ _ 49 rfl ud49 inf82 rfl rfl rfl rfl (by (try simp only [List.length_map, List.length_append, List.length_cons, List.length_nil]); omega) qB qB List.map_drop.symm (.push qL qN) ?_) | (refine kL 2627 rfl ?_; first | refine A_store_rp rfl rfl 82 _ _ rfl inf82 (by decide) rfl rfl (by first | exact map_get (by assumption) | assumption | exact map_get hx) rfl rfl rfl (Nat.le_of_ble_eq_true rfl) (by first | exact map_set (f := tXg) (x := ⟨_, _, _⟩) | exact qN) qN ?_) | (refine kL 1583 rfl ?_; first | refine A_lit rfl rfl 49 1 _ rfl ud49 inf82 (.cons rfl .nil) (els := [[_, _, _]]) rfl (by first | exact (rfl : _ = List.map tXg [⟨_, _, _⟩]) | exact qN) rfl (Nat.ne_of_beq_eq_false rfl) (Nat.le_of_ble_eq_true rfl) (Nat.le_of_ble_eq_true rfl) (.push qL qN) ?_) | refine uA ?_)) | refine uC ?_ | refine kcp rfl (fun hc => ?_) (fun hc => ?_) | refine kcn rfl (fun hc => ?_) (fun hc => ?_) | refine kcb rfl (fun hc => ?_) (fun hc => ?_) | refine kcc rfl (fun hc => ?_) (fun hc => ?_) | fail)
    all_goals first | (exfalso; omega) | skip
    refine ⟨q, by omega, by omega, ?_⟩
    rw [hn, List.length_append]
    exact Wk.cq 1
   ·have e : q = 0 := by omega
    subst e
    generalize bkQ l 0 = Q at *
    repeat' (first | ((with_reducible refine kAL ?_); (first | (refine kL 12 rfl ?_; first | refine A_append_nlsub rfl rfl _ _ 49 rfl ud49 inf82 rfl rfl rfl rfl (by (try simp only [List.length_map, List.length_append, List.length_cons, List.length_nil]); omega) qB qB List.map_drop.symm (.push qL qN) ?_) | (refine kL 1583 rfl ?_; first | refine A_lit rfl rfl 49 1 _ rfl ud49 inf82 (.cons rfl .nil) (els := [[_, _, _]]) rfl (by first | exact qN) rfl (Nat.ne_of_beq_eq_false rfl) (Nat.le_of_ble_eq_true rfl) (Nat.le_of_ble_eq_true rfl) (.push qL qN) ?_) | refine uA ?_)) | refine uC ?_ | refine kcp rfl (fun hc => ?_) (fun hc => ?_) | refine kcn rfl (fun hc => ?_) (fun hc => ?_) | refine kcb rfl (fun hc => ?_) (fun hc => ?_) | refine kcc rfl (fun hc => ?_) (fun hc => ?_) | fail)
    all_goals first | (exfalso; omega) | ((first | exact Fin.q Try.results38 (.cons (.tmp rfl) .nil) [0] | refine Fin.q Try.results38 (.cons (.tmp rfl) .nil) [0] (hr := (.t ?_)) | refine Fin.mkv (rs := _) Try.results38 (.cons (.tmp rfl) .nil) [0] (by decide) rfl ?_ ?_ ?_ <;> repeat' (skip; first | exact .nil | refine .cons rfl ?_ ?_ | refine .cons ?_ ?_ | refine .row ?_ | refine .rset ?_ | refine .box ?_ | exact .gone | refine .aggL ?_ | refine .tupL ?_ | refine .old rfl ?_ | refine .new rfl rfl rfl ?_ | exact .nl | exact .optr rfl | exact .nptr rfl rfl rfl | refine .t ?_ | exact .any _ | rfl)))
 generalize bkQ l 0 = Q at *
 have h0' := Cd.frz1 h0 0 rfl (by repeat' (first | exact FzL.nil | apply FzL.cons | exact FzR.nlt | exact FzR.all (by first | rfl | (simp <;> fail) | (simp; omega)) | exact FzR.sl (by first | exact Nat.le_refl _ | (simp <;> fail) | (simp; omega)) | apply FzR.aggL | exact FzR.same _)) rfl; exact Cd.drop h0' rfl
theorem plain39_c (l : List DXg) (hl : l.length ≤ 4194304) : Cd Try.prog 23 [.ln (l.map tXg)] (.t (.lst (l.map tXg))) [] := by
 have h1 : (l.map tXg).length = l.length := List.length_map _
 have h0 : Cd Try.prog 23 [.ln (l.map tXg)] (.sl 0 0 l.length) [.row 0 104 3 (l.map tXg)] := by
  refine Cd.enter' Try.func23 rfl Try.ntmps23 rfl ?_
  repeat' (first | ((with_reducible refine kAL ?_); (first | (refine kL 12 rfl ?_; first | refine A_append_nlsub rfl rfl _ _ 52 rfl ud52 inf104 rfl rfl rfl rfl (by (try simp only [List.length_map, List.length_append, List.length_cons, List.length_nil]); omega) qB qB List.map_drop.symm (.push qL qN) ?_) | (refine kL 1679 rfl ?_; first | refine A_lit rfl rfl 52 1 _ rfl ud52 inf104 (.cons rfl .nil) (els := [[_, _, _]]) rfl (by first | exact qN) rfl (Nat.ne_of_beq_eq_false rfl) (Nat.le_of_ble_eq_true rfl) (Nat.le_of_ble_eq_true rfl) (.push qL qN) ?_) | refine uA ?_)) | refine uC ?_ | refine kcp rfl (fun hc => ?_) (fun hc => ?_) | refine kcn rfl (fun hc => ?_) (fun hc => ?_) | refine kcb rfl (fun hc => ?_) (fun hc => ?_) | refine kcc rfl (fun hc => ?_) (fun hc => ?_) | fail)
  all_goals first | (exfalso; omega) | skip
  refine AW.wk (Wk.own 3 rfl 104 3 (.push rfl rfl)) ?_
  refine AW.loopP (fun (q : Nat) => q ≤ l.length) (fun (q : Nat) => (pu (pu (pu (pu (fun _ => .any) 3 (.sl 0 q q)) 6 (.ln (l.map tXg))) 7 (i64 (l.map tXg).length)) 8 (i64 q))) (fun (q : Nat) => [.row q 104 3 ((l.take q).map tXg)]) (fun (q : Nat) => l.length - q) (0) ?_ ?_ ?_
  ·exact Nat.zero_le _
  ·exact Wk.cq 1
  ·intro q hq
   by_cases hq2 : q < l.length
   ·obtain ⟨x, hx⟩ : ∃ x, l[q]? = some x := ⟨_, List.getElem?_eq_getElem hq2⟩
    have hL : (l.take q).length = q := by rw [List.length_take]; omega
    have hn : l.take (q + 1) = l.take q ++ [⟨x.addr, x.old, x.now⟩] := by rw [List.take_add_one, hx]; rfl
    generalize l.take q = Q at *
    have hL2 : (Q.map tXg).length = q := by rw [List.length_map, hL]
    repeat' (first | ((with_reducible refine kAL ?_); (first | (refine kL 12 rfl ?_; first | refine A_append rfl rfl _ _ 52 rfl ud52 inf104 rfl rfl rfl (by first | exact Nat.le_refl _ | (simp <;> fail) | (simp; omega)) (by first | exact .nl | exact .all rfl (by first | rfl | (simp <;> fail) | (simp; omega)) | exact .lst (by first | exact each_map (fun _ => rfl) | assumption | (simp <;> fail) | fail) | exact .ln (by first | exact each_map (fun _ => rfl) | assumption | (simp <;> fail) | fail) | exact .sl rfl (by first | exact Nat.le_refl _ | (simp <;> fail) | (simp; omega)) | exact .sub rfl (by first | exact Nat.le_refl _ | (simp <;> fail) | (simp; omega))) qB qB (by first | exact app_map (by first | rfl | omega | (simp <;> fail) | fail) | exact app_one (f := tXg) (x := ⟨_, _, _⟩) (by first | rfl | omega | (simp <;> fail) | fail) | exact qN) qN qS ?_ | refine A_append_nl rfl rfl _ _ 52 rfl ud52 inf104 rfl rfl (by first | exact .nl | exact .all rfl (by first | rfl | (simp <;> fail) | (simp; omega)) | exact .lst (by first | exact each_map (fun _ => rfl) | assumption | (simp <;> fail) | fail) | exact .ln (by first | exact each_map (fun _ => rfl) | assumption | (simp <;> fail) | fail) | exact .sl rfl (by first | exact Nat.le_refl _ | (simp <;> fail) | (simp; omega)) | exact .sub rfl (by first | exact Nat.le_refl _ | (simp <;> fail) | (simp; omega))) qB qB (by first | exact (rfl : _ = List.map tXg [⟨_, _, _⟩]) | exact qN) (.push qL qN) qS ?_ | refine A_append_nlsub rfl rfl _ _ 52 rfl ud52 inf104 rfl rfl rfl rfl (by (try simp only [List.length_map, List.length_append, List.length_cons, List.length_nil]); omega) qB qB List.map_drop.symm (.push qL qN) ?_) | (refine kL 2627 rfl ?_; first | refine A_store_rp rfl rfl 82 _ _ rfl inf82 (by decide) rfl rfl (by first | exact map_get (by assumption) | assumption | exact map_get hx) rfl rfl rfl (Nat.le_of_ble_eq_true rfl) (by first | exact map_set (f := tXg) (x := ⟨_, _, _⟩) | exact qN) qN ?_) | (refine kL 1679 rfl ?_; first | refine A_lit rfl rfl 52 1 _ rfl ud52 inf104 (.cons rfl .nil) (els := [[_, _, _]]) rfl (by first | exact (rfl : _ = List.map tXg [⟨_, _, _⟩]) | exact qN) rfl (Nat.ne_of_beq_eq_false rfl) (Nat.le_of_ble_eq_true rfl) (Nat.le_of_ble_eq_true rfl) (.push qL qN) ?_) | refine uA ?_)) | refine uC ?_ | refine kcp rfl (fun hc => ?_) (fun hc => ?_) | refine kcn rfl (fun hc => ?_) (fun hc => ?_) | refine kcb rfl (fun hc => ?_) (fun hc => ?_) | refine kcc rfl (fun hc => ?_) (fun hc => ?_) | fail)
    all_goals first | (exfalso; omega) | skip
    refine ⟨q + 1, by omega, by omega, ?_⟩
    rw [hn]
    exact Wk.cq 1
   ·have e : q = l.length := by omega
    subst e
    rw [List.take_length]
    repeat' (first | ((with_reducible refine kAL ?_); (first | (refine kL 12 rfl ?_; first | refine A_append_nlsub rfl rfl _ _ 52 rfl ud52 inf104 rfl rfl rfl rfl (by (try simp only [List.length_map, List.length_append, List.length_cons, List.length_nil]); omega) qB qB List.map_drop.symm (.push qL qN) ?_) | (refine kL 1679 rfl ?_; first | refine A_lit rfl rfl 52 1 _ rfl ud52 inf104 (.cons rfl .nil) (els := [[_, _, _]]) rfl (by first | exact qN) rfl (Nat.ne_of_beq_eq_false rfl) (Nat.le_of_ble_eq_true rfl) (Nat.le_of_ble_eq_true rfl) (.push qL qN) ?_) | refine uA ?_)) | refine uC ?_ | refine kcp rfl (fun hc => ?_) (fun hc => ?_) | refine kcn rfl (fun hc => ?_) (fun hc => ?_) | refine kcb rfl (fun hc => ?_) (fun hc => ?_) | refine kcc rfl (fun hc => ?_) (fun hc => ?_) | fail)
    all_goals first | (exfalso; omega) | ((first | exact Fin.q Try.results23 (.cons (.tmp rfl) .nil) [0] | refine Fin.q Try.results23 (.cons (.tmp rfl) .nil) [0] (hr := (.t ?_)) | refine Fin.mkv (rs := _) Try.results23 (.cons (.tmp rfl) .nil) [0] (by decide) rfl ?_ ?_ ?_ <;> repeat' (skip; first | exact .nil | refine .cons rfl ?_ ?_ | refine .cons ?_ ?_ | refine .row ?_ | refine .rset ?_ | refine .box ?_ | exact .gone | refine .aggL ?_ | refine .tupL ?_ | refine .old rfl ?_ | refine .new rfl rfl rfl ?_ | exact .nl | exact .optr rfl | exact .nptr rfl rfl rfl | refine .t ?_ | exact .any _ | rfl)))
 have h0' := Cd.frz1 h0 0 rfl (by repeat' (first | exact FzL.nil | apply FzL.cons | exact FzR.nlt | exact FzR.all (by first | rfl | (simp <;> fail) | (simp; omega)) | exact FzR.sl (by first | exact Nat.le_refl _ | (simp <;> fail) | (simp; omega)) | apply FzR.aggL | exact FzR.same _)) rfl; exact Cd.drop h0' rfl
theorem same39_c (l : List DXg) (hl : l.length ≤ 4194304) : Cd Try.prog 24 [.ln (l.map tXg), .ln (l.map tXg)] (bo true) [] := by
 have h1 : (l.map tXg).length = l.length := List.length_map _
 refine Cd.enter' Try.func24 rfl Try.ntmps24 rfl ?_
 repeat' (first | refine uA ?_ | refine uR ?_ | refine uC ?_ | refine kcp rfl (fun hc => ?_) (fun hc => ?_) | refine kcn rfl (fun hc => ?_) (fun hc => ?_) | refine kcb rfl (fun hc => ?_) (fun hc => ?_) | refine kcc rfl (fun hc => ?_) (fun hc => ?_) | refine AW.drawU (id := 6) mixed 0 qR ?_ | fail)
 all_goals first | (exfalso; omega) | skip
 refine AW.loopP (fun (q : Nat) => q ≤ l.length) (fun (q : Nat) => (pu (pu (pu (pu (fun _ => .any) 0 (.ln (l.map tXg))) 1 (.ln (l.map tXg))) 12 (i64 (l.map tXg).length)) 13 (i64 q))) (fun (q : Nat) => []) (fun (q : Nat) => l.length - q) (0) ?_ ?_ ?_
 ·exact Nat.zero_le _
 ·exact Wk.cq 0
 ·intro q hq
  by_cases hq2 : q < l.length
  ·obtain ⟨x, hx⟩ : ∃ x, l[q]? = some x := ⟨_, List.getElem?_eq_getElem hq2⟩
   repeat' (first | refine uA ?_ | refine uR ?_ | refine uC ?_ | refine kcp rfl (fun hc => ?_) (fun hc => ?_) | refine kcn rfl (fun hc => ?_) (fun hc => ?_) | refine kcb rfl (fun hc => ?_) (fun hc => ?_) | refine kcc rfl (fun hc => ?_) (fun hc => ?_) | refine AW.drawU (id := 6) mixed 0 qR ?_ | fail)
   all_goals first | (exfalso; omega) | skip
   refine ⟨q + 1, by omega, by omega, ?_⟩
   exact Wk.cq 0
  ·have e : q = l.length := by omega
   subst e
   repeat' (first | refine uA ?_ | refine uR ?_ | refine uC ?_ | refine kcp rfl (fun hc => ?_) (fun hc => ?_) | refine kcn rfl (fun hc => ?_) (fun hc => ?_) | refine kcb rfl (fun hc => ?_) (fun hc => ?_) | refine kcc rfl (fun hc => ?_) (fun hc => ?_) | refine AW.drawU (id := 6) mixed 0 qR ?_ | fail)
   all_goals first | (exfalso; omega) | ((first | exact Fin.q Try.results24 (.cons (.tmp rfl) .nil) [] | refine Fin.q Try.results24 (.cons (.tmp rfl) .nil) [] (hr := (.t ?_)) | refine Fin.mkv (rs := _) Try.results24 (.cons (.tmp rfl) .nil) [] (by decide) rfl ?_ ?_ ?_ <;> repeat' (skip; first | exact .nil | refine .cons rfl ?_ ?_ | refine .cons ?_ ?_ | refine .row ?_ | refine .rset ?_ | refine .box ?_ | exact .gone | refine .aggL ?_ | refine .tupL ?_ | refine .old rfl ?_ | refine .new rfl rfl rfl ?_ | exact .nl | exact .optr rfl | exact .nptr rfl rfl rfl | refine .t ?_ | exact .any _ | rfl)))
end
end Go.Proofs.Ytnibnbcmnaflmaa
