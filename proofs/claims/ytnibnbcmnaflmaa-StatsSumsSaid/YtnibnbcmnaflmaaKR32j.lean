/- Joined: XTStatsS. -/
import Derived.Test.YtnibnbcmnaflmaaKR32h
import Derived.Test.YtnibnbcmnaflmaaKR32i
import Derived.Test.YtnibnbcmnaflmaaKR32d
namespace Go.Proofs.Ytnibnbcmnaflmaa
open Go.RowKit
set_option linter.unusedVariables false
set_option linter.unusedSimpArgs false
set_option linter.unnecessarySimpa false
set_option maxRecDepth 100000
set_option maxHeartbeats 64000000
section
attribute [local irreducible] AL AW RG Fin C Cd Cio thenQ blockQ retQ
set_option maxRecDepth 100000
abbrev aSm (a b c d e f : Int) : List AV := [i64 a, i64 b, i64 c, i64 d, i64 e, i64 f]
theorem sOf_c (l : List DNote) (u : List DTurn) (hl : l.length ≤ 1152921504606846976) (hu : u.length ≤ 1152921504606846976) (hu2 : ∀ x ∈ u, x.ops.length ≤ 1152921504606846976) :
  Cd Try.prog 27 [.ln (l.map tNt), .ln (u.map tTn)] (.agg (aSm (cntN l 1 l.length) (cntN l 3 l.length) (cntN l 2 l.length) u.length (helpK u u.length) (batK u u.length))) [] := by
 have h1 : (l.map tNt).length = l.length := List.length_map _
 have h2 : (u.map tTn).length = u.length := List.length_map _
 refine Cd.enter' Try.func27 rfl Try.ntmps27 rfl ?_
 repeat' (first | refine uA ?_ | refine uC ?_ | refine kcp rfl (fun hc => ?_) (fun hc => ?_) | refine kcn rfl (fun hc => ?_) (fun hc => ?_) | refine kcb rfl (fun hc => ?_) (fun hc => ?_) | refine kcc rfl (fun hc => ?_) (fun hc => ?_) | fail)
 refine AW.loopP (fun (q : Nat) => q ≤ l.length) (fun (q : Nat) => (pu (pu (pu (pu (pu (pu (fun _ => .any) 1 (.ln (u.map tTn))) 4 (.ptr 0 0)) 5 (.ptr 1 0)) 12 (.ln (l.map tNt))) 13 (i64 (l.map tNt).length)) 14 (i64 q))) (fun (q : Nat) => [.box 63 (aSm 0 0 0 0 0 0), .box 63 (aSm (cntN l 1 q) (cntN l 3 q) (cntN l 2 q) 0 0 0)]) (fun (q : Nat) => l.length - q) (0) ?_ ?_ ?_
 ·exact Nat.zero_le _
 ·exact Wk.cq 2
 ·intro q hq
  by_cases hq2 : q < l.length
  ·obtain ⟨a, hx⟩ : ∃ a, l[q]? = some a := ⟨_, List.getElem?_eq_getElem hq2⟩
   have e1 := cntN_next (k := 1) hx
   have e3 := cntN_next (k := 3) hx
   have e2 := cntN_next (k := 2) hx
   have b1 := cntN_le l 1 q
   have b2 := cntN_le l 2 q
   have b3 := cntN_le l 3 q
   by_cases k1 : a.kind = 1
   ·rw [if_pos k1] at e1
    rw [if_neg (by omega)] at e2 e3
    repeat' (first | refine uA ?_ | refine uC ?_ | refine kcp rfl (fun hc => ?_) (fun hc => ?_) | refine kcn rfl (fun hc => ?_) (fun hc => ?_) | refine kcb rfl (fun hc => ?_) (fun hc => ?_) | refine kcc rfl (fun hc => ?_) (fun hc => ?_) | fail)
    all_goals first | (exfalso; omega) | skip
    refine ⟨q + 1, by omega, by omega, ?_⟩
    rw [e1, e2, e3]
    exact Wk.cq 2
   ·rw [if_neg k1] at e1
    by_cases k2 : a.kind = 2
    ·rw [if_pos k2] at e2
     rw [if_neg (by omega)] at e3
     repeat' (first | refine uA ?_ | refine uC ?_ | refine kcp rfl (fun hc => ?_) (fun hc => ?_) | refine kcn rfl (fun hc => ?_) (fun hc => ?_) | refine kcb rfl (fun hc => ?_) (fun hc => ?_) | refine kcc rfl (fun hc => ?_) (fun hc => ?_) | fail)
     all_goals first | (exfalso; omega) | skip
     refine ⟨q + 1, by omega, by omega, ?_⟩
     rw [e1, e2, e3]
     exact Wk.cq 2
    ·rw [if_neg k2] at e2
     by_cases k3 : a.kind = 3
     ·rw [if_pos k3] at e3
      repeat' (first | refine uA ?_ | refine uC ?_ | refine kcp rfl (fun hc => ?_) (fun hc => ?_) | refine kcn rfl (fun hc => ?_) (fun hc => ?_) | refine kcb rfl (fun hc => ?_) (fun hc => ?_) | refine kcc rfl (fun hc => ?_) (fun hc => ?_) | fail)
      all_goals first | (exfalso; omega) | skip
      refine ⟨q + 1, by omega, by omega, ?_⟩
      rw [e1, e2, e3]
      exact Wk.cq 2
     ·rw [if_neg k3] at e3
      repeat' (first | refine uA ?_ | refine uC ?_ | refine kcp rfl (fun hc => ?_) (fun hc => ?_) | refine kcn rfl (fun hc => ?_) (fun hc => ?_) | refine kcb rfl (fun hc => ?_) (fun hc => ?_) | refine kcc rfl (fun hc => ?_) (fun hc => ?_) | fail)
      all_goals first | (exfalso; omega) | skip
      refine ⟨q + 1, by omega, by omega, ?_⟩
      rw [e1, e2, e3]
      exact Wk.cq 2
  ·have e : q = l.length := by omega
   subst e
   generalize ((cntN l 1 l.length : Nat) : Int) = n1 at *
   generalize ((cntN l 2 l.length : Nat) : Int) = n2 at *
   generalize ((cntN l 3 l.length : Nat) : Int) = n3 at *
   repeat' (first | refine uA ?_ | refine uC ?_ | refine kcp rfl (fun hc => ?_) (fun hc => ?_) | refine kcn rfl (fun hc => ?_) (fun hc => ?_) | refine kcb rfl (fun hc => ?_) (fun hc => ?_) | refine kcc rfl (fun hc => ?_) (fun hc => ?_) | fail)
   all_goals first | (exfalso; omega) | skip
   refine AW.loopP (fun (i : Nat) => i ≤ u.length) (fun (i : Nat) => (pu (pu (pu (pu (pu (fun _ => .any) 4 (.ptr 0 0)) 5 (.ptr 1 0)) 39 (.ln (u.map tTn))) 40 (i64 (u.map tTn).length)) 41 (i64 i))) (fun (i : Nat) => [.box 63 (aSm 0 0 0 0 0 0), .box 63 (aSm n1 n3 n2 i (helpK u i) (batK u i))]) (fun (i : Nat) => u.length - i) (0) ?_ ?_ ?_
   ·exact Nat.zero_le _
   ·exact Wk.cq 2
   ·intro i hi
    by_cases hi2 : i < u.length
    ·obtain ⟨x, hx⟩ : ∃ x, u[i]? = some x := ⟨_, List.getElem?_eq_getElem hi2⟩
     have eh := helpK_next hx
     have eb := batK_next hx
     have h3 : (x.ops.map tOp).length = x.ops.length := List.length_map _
     have h4 := hu2 x (List.mem_of_getElem? hx)
     repeat' (first | refine uA ?_ | refine uC ?_ | refine kcp rfl (fun hc => ?_) (fun hc => ?_) | refine kcn rfl (fun hc => ?_) (fun hc => ?_) | refine kcb rfl (fun hc => ?_) (fun hc => ?_) | refine kcc rfl (fun hc => ?_) (fun hc => ?_) | fail)
     all_goals first | (exfalso; omega) | skip
     refine AW.loopP (fun (j : Nat) => j ≤ x.ops.length) (fun (j : Nat) => (pu (pu (pu (pu (pu (pu (pu (pu (pu (fun _ => .any) 4 (.ptr 0 0)) 5 (.ptr 1 0)) 39 (.ln (u.map tTn))) 40 (i64 (u.map tTn).length)) 41 (i64 i)) 9 (.ptr 2 0)) 57 (.t (.lst (x.ops.map tOp)))) 58 (i64 (x.ops.map tOp).length)) 59 (i64 j))) (fun (j : Nat) => [.box 63 (aSm 0 0 0 0 0 0), .box 63 (aSm n1 n3 n2 ((i : Int) + 1) (helpI x (helpK u i) j) (max (batK u i) (x.ops.length : Int))), .box 109 [i64 x.time, i64 x.thread, .t (.lst (x.ops.map tOp))]]) (fun (j : Nat) => x.ops.length - j) (0) ?_ ?_ ?_
     ·exact Nat.zero_le _
     ·rw [h3]
      exact Wk.cq 3
     ·intro j hj
      by_cases hj2 : j < x.ops.length
      ·obtain ⟨o, ho⟩ : ∃ o, x.ops[j]? = some o := ⟨_, List.getElem?_eq_getElem hj2⟩
       have en := helpI_next (h := helpK u i) ho
       unfold helpO at en
       generalize helpI x (helpK u i) j = g at *
       clear eh eb
       by_cases ht : o.thread ≠ x.thread
       ·rw [if_pos ht] at en
        repeat' (first | refine uA ?_ | refine uC ?_ | refine kcp rfl (fun hc => ?_) (fun hc => ?_) | refine kcn rfl (fun hc => ?_) (fun hc => ?_) | refine kcb rfl (fun hc => ?_) (fun hc => ?_) | refine kcc rfl (fun hc => ?_) (fun hc => ?_) | fail)
        all_goals first | (exfalso; omega) | skip
        refine ⟨j + 1, by omega, by omega, ?_⟩
        rw [en]
        exact Wk.cq 3
       ·rw [if_neg ht] at en
        repeat' (first | refine uA ?_ | refine uC ?_ | refine kcp rfl (fun hc => ?_) (fun hc => ?_) | refine kcn rfl (fun hc => ?_) (fun hc => ?_) | refine kcb rfl (fun hc => ?_) (fun hc => ?_) | refine kcc rfl (fun hc => ?_) (fun hc => ?_) | fail)
        all_goals first | (exfalso; omega) | skip
        refine ⟨j + 1, by omega, by omega, ?_⟩
        rw [en]
        exact Wk.cq 3
      ·have e : j = x.ops.length := by omega
       subst e
       rw [← eh, ← eb]
       repeat' (first | refine uA ?_ | refine uC ?_ | refine kcp rfl (fun hc => ?_) (fun hc => ?_) | refine kcn rfl (fun hc => ?_) (fun hc => ?_) | refine kcb rfl (fun hc => ?_) (fun hc => ?_) | refine kcc rfl (fun hc => ?_) (fun hc => ?_) | fail)
       all_goals first | (exfalso; omega) | skip
       refine ⟨i + 1, by omega, by omega, ?_⟩
       exact Wk.cq 2
    ·have e : i = u.length := by omega
     subst e
     repeat' (first | refine uA ?_ | refine uC ?_ | refine kcp rfl (fun hc => ?_) (fun hc => ?_) | refine kcn rfl (fun hc => ?_) (fun hc => ?_) | refine kcb rfl (fun hc => ?_) (fun hc => ?_) | refine kcc rfl (fun hc => ?_) (fun hc => ?_) | fail)
     all_goals first | (exfalso; omega) | ((first | exact Fin.q Try.results27 (.cons (.agg rfl rfl ud63 rfl inf63 (us := [_, _, _, _, _, _]) rfl rfl) .nil) [] | refine Fin.q Try.results27 (.cons (.agg rfl rfl ud63 rfl inf63 (us := [_, _, _, _, _, _]) rfl rfl) .nil) [] (hr := (.t ?_)) | refine Fin.mkv (rs := _) Try.results27 (.cons (.agg rfl rfl ud63 rfl inf63 (us := [_, _, _, _, _, _]) rfl rfl) .nil) [] (by decide) rfl ?_ ?_ ?_ <;> repeat' (skip; first | exact .nil | refine .cons rfl ?_ ?_ | refine .cons ?_ ?_ | refine .row ?_ | refine .rset ?_ | refine .box ?_ | exact .gone | refine .aggL ?_ | refine .tupL ?_ | refine .old rfl ?_ | refine .new rfl rfl rfl ?_ | exact .nl | exact .optr rfl | exact .nptr rfl rfl rfl | refine .t ?_ | exact .any _ | rfl)))
theorem rSum_c (l : List DNote) (u : List DTurn) (hl : l.length ≤ 1152921504606846976) (hu : u.length ≤ 1152921504606846976) (hu2 : ∀ x ∈ u, x.ops.length ≤ 1152921504606846976) :
  Cd Try.prog 26 [.ln (l.map tNt), .ln (u.map tTn)] (.agg (aSm (cntN l 1 l.length) (cntN l 3 l.length) (cntN l 2 l.length) u.length (helpK u u.length) (batK u u.length))) [] := by
 have h1 : (l.map tNt).length = l.length := List.length_map _
 have h2 : (u.map tTn).length = u.length := List.length_map _
 refine Cd.enter' Try.func26 rfl Try.ntmps26 rfl ?_
 repeat' (first | ((with_reducible refine kAL ?_); (first | (refine kL 1926 rfl ?_; first | refine A_idx_arr rfl rfl 60 _ _ rfl ud60 inf3 rfl (by decide) 0 rfl (by decide) 0 rfl rfl ?_ | refine A_idx_arr rfl rfl 60 _ _ rfl ud60 inf3 rfl (by decide) 1 rfl (by decide) 1 rfl rfl ?_ | refine A_idx_arr rfl rfl 60 _ _ rfl ud60 inf3 rfl (by decide) 2 rfl (by decide) 2 rfl rfl ?_ | refine A_idx_arr rfl rfl 60 _ _ rfl ud60 inf3 rfl (by decide) 3 rfl (by decide) 3 rfl rfl ?_ | refine A_idx_arr rfl rfl 60 _ _ rfl ud60 inf3 rfl (by decide) 4 rfl (by decide) 4 rfl rfl ?_ | refine A_idx_arr rfl rfl 60 _ _ rfl ud60 inf3 rfl (by decide) 5 rfl (by decide) 5 rfl rfl ?_) | refine uA ?_)) | refine uC ?_ | refine kcp rfl (fun hc => ?_) (fun hc => ?_) | refine kcn rfl (fun hc => ?_) (fun hc => ?_) | refine kcb rfl (fun hc => ?_) (fun hc => ?_) | refine kcc rfl (fun hc => ?_) (fun hc => ?_) | fail)
 refine AW.loopP (fun (q : Nat) => q ≤ l.length) (fun (q : Nat) => (pu (pu (pu (pu (pu (pu (fun _ => .any) 1 (.ln (u.map tTn))) 4 (.ptr 0 0)) 5 (.ptr 1 0)) 12 (.ln (l.map tNt))) 13 (i64 (l.map tNt).length)) 14 (i64 q))) (fun (q : Nat) => [.box 60 (aSm 0 0 0 0 0 0), .box 60 (aSm (cntN l 1 q) (cntN l 3 q) (cntN l 2 q) 0 0 0)]) (fun (q : Nat) => l.length - q) (0) ?_ ?_ ?_
 ·exact Nat.zero_le _
 ·exact Wk.cq 2
 ·intro q hq
  by_cases hq2 : q < l.length
  ·obtain ⟨a, hx⟩ : ∃ a, l[q]? = some a := ⟨_, List.getElem?_eq_getElem hq2⟩
   have e1 := cntN_next (k := 1) hx
   have e3 := cntN_next (k := 3) hx
   have e2 := cntN_next (k := 2) hx
   have b1 := cntN_le l 1 q
   have b2 := cntN_le l 2 q
   have b3 := cntN_le l 3 q
   by_cases k1 : a.kind = 1
   ·rw [if_pos k1] at e1
    rw [if_neg (by omega)] at e2 e3
    repeat' (first | ((with_reducible refine kAL ?_); (first | (refine kL 1926 rfl ?_; first | refine A_idx_arr rfl rfl 60 _ _ rfl ud60 inf3 rfl (by decide) 0 rfl (by decide) 0 rfl rfl ?_ | refine A_idx_arr rfl rfl 60 _ _ rfl ud60 inf3 rfl (by decide) 1 rfl (by decide) 1 rfl rfl ?_ | refine A_idx_arr rfl rfl 60 _ _ rfl ud60 inf3 rfl (by decide) 2 rfl (by decide) 2 rfl rfl ?_ | refine A_idx_arr rfl rfl 60 _ _ rfl ud60 inf3 rfl (by decide) 3 rfl (by decide) 3 rfl rfl ?_ | refine A_idx_arr rfl rfl 60 _ _ rfl ud60 inf3 rfl (by decide) 4 rfl (by decide) 4 rfl rfl ?_ | refine A_idx_arr rfl rfl 60 _ _ rfl ud60 inf3 rfl (by decide) 5 rfl (by decide) 5 rfl rfl ?_) | refine uA ?_)) | refine uC ?_ | refine kcp rfl (fun hc => ?_) (fun hc => ?_) | refine kcn rfl (fun hc => ?_) (fun hc => ?_) | refine kcb rfl (fun hc => ?_) (fun hc => ?_) | refine kcc rfl (fun hc => ?_) (fun hc => ?_) | fail)
    all_goals first | (exfalso; omega) | skip
    refine ⟨q + 1, by omega, by omega, ?_⟩
    rw [e1, e2, e3]
    exact Wk.cq 2
   ·rw [if_neg k1] at e1
    by_cases k2 : a.kind = 2
    ·rw [if_pos k2] at e2
     rw [if_neg (by omega)] at e3
     repeat' (first | ((with_reducible refine kAL ?_); (first | (refine kL 1926 rfl ?_; first | refine A_idx_arr rfl rfl 60 _ _ rfl ud60 inf3 rfl (by decide) 0 rfl (by decide) 0 rfl rfl ?_ | refine A_idx_arr rfl rfl 60 _ _ rfl ud60 inf3 rfl (by decide) 1 rfl (by decide) 1 rfl rfl ?_ | refine A_idx_arr rfl rfl 60 _ _ rfl ud60 inf3 rfl (by decide) 2 rfl (by decide) 2 rfl rfl ?_ | refine A_idx_arr rfl rfl 60 _ _ rfl ud60 inf3 rfl (by decide) 3 rfl (by decide) 3 rfl rfl ?_ | refine A_idx_arr rfl rfl 60 _ _ rfl ud60 inf3 rfl (by decide) 4 rfl (by decide) 4 rfl rfl ?_ | refine A_idx_arr rfl rfl 60 _ _ rfl ud60 inf3 rfl (by decide) 5 rfl (by decide) 5 rfl rfl ?_) | refine uA ?_)) | refine uC ?_ | refine kcp rfl (fun hc => ?_) (fun hc => ?_) | refine kcn rfl (fun hc => ?_) (fun hc => ?_) | refine kcb rfl (fun hc => ?_) (fun hc => ?_) | refine kcc rfl (fun hc => ?_) (fun hc => ?_) | fail)
     all_goals first | (exfalso; omega) | skip
     refine ⟨q + 1, by omega, by omega, ?_⟩
     rw [e1, e2, e3]
     exact Wk.cq 2
    ·rw [if_neg k2] at e2
     by_cases k3 : a.kind = 3
     ·rw [if_pos k3] at e3
      repeat' (first | ((with_reducible refine kAL ?_); (first | (refine kL 1926 rfl ?_; first | refine A_idx_arr rfl rfl 60 _ _ rfl ud60 inf3 rfl (by decide) 0 rfl (by decide) 0 rfl rfl ?_ | refine A_idx_arr rfl rfl 60 _ _ rfl ud60 inf3 rfl (by decide) 1 rfl (by decide) 1 rfl rfl ?_ | refine A_idx_arr rfl rfl 60 _ _ rfl ud60 inf3 rfl (by decide) 2 rfl (by decide) 2 rfl rfl ?_ | refine A_idx_arr rfl rfl 60 _ _ rfl ud60 inf3 rfl (by decide) 3 rfl (by decide) 3 rfl rfl ?_ | refine A_idx_arr rfl rfl 60 _ _ rfl ud60 inf3 rfl (by decide) 4 rfl (by decide) 4 rfl rfl ?_ | refine A_idx_arr rfl rfl 60 _ _ rfl ud60 inf3 rfl (by decide) 5 rfl (by decide) 5 rfl rfl ?_) | refine uA ?_)) | refine uC ?_ | refine kcp rfl (fun hc => ?_) (fun hc => ?_) | refine kcn rfl (fun hc => ?_) (fun hc => ?_) | refine kcb rfl (fun hc => ?_) (fun hc => ?_) | refine kcc rfl (fun hc => ?_) (fun hc => ?_) | fail)
      all_goals first | (exfalso; omega) | skip
      refine ⟨q + 1, by omega, by omega, ?_⟩
      rw [e1, e2, e3]
      exact Wk.cq 2
     ·rw [if_neg k3] at e3
      repeat' (first | ((with_reducible refine kAL ?_); (first | (refine kL 1926 rfl ?_; first | refine A_idx_arr rfl rfl 60 _ _ rfl ud60 inf3 rfl (by decide) 0 rfl (by decide) 0 rfl rfl ?_ | refine A_idx_arr rfl rfl 60 _ _ rfl ud60 inf3 rfl (by decide) 1 rfl (by decide) 1 rfl rfl ?_ | refine A_idx_arr rfl rfl 60 _ _ rfl ud60 inf3 rfl (by decide) 2 rfl (by decide) 2 rfl rfl ?_ | refine A_idx_arr rfl rfl 60 _ _ rfl ud60 inf3 rfl (by decide) 3 rfl (by decide) 3 rfl rfl ?_ | refine A_idx_arr rfl rfl 60 _ _ rfl ud60 inf3 rfl (by decide) 4 rfl (by decide) 4 rfl rfl ?_ | refine A_idx_arr rfl rfl 60 _ _ rfl ud60 inf3 rfl (by decide) 5 rfl (by decide) 5 rfl rfl ?_) | refine uA ?_)) | refine uC ?_ | refine kcp rfl (fun hc => ?_) (fun hc => ?_) | refine kcn rfl (fun hc => ?_) (fun hc => ?_) | refine kcb rfl (fun hc => ?_) (fun hc => ?_) | refine kcc rfl (fun hc => ?_) (fun hc => ?_) | fail)
      all_goals first | (exfalso; omega) | skip
      refine ⟨q + 1, by omega, by omega, ?_⟩
      rw [e1, e2, e3]
      exact Wk.cq 2
  ·have e : q = l.length := by omega
   subst e
   generalize ((cntN l 1 l.length : Nat) : Int) = n1 at *
   generalize ((cntN l 2 l.length : Nat) : Int) = n2 at *
   generalize ((cntN l 3 l.length : Nat) : Int) = n3 at *
   repeat' (first | ((with_reducible refine kAL ?_); (first | (refine kL 1926 rfl ?_; first | refine A_idx_arr rfl rfl 60 _ _ rfl ud60 inf3 rfl (by decide) 0 rfl (by decide) 0 rfl rfl ?_ | refine A_idx_arr rfl rfl 60 _ _ rfl ud60 inf3 rfl (by decide) 1 rfl (by decide) 1 rfl rfl ?_ | refine A_idx_arr rfl rfl 60 _ _ rfl ud60 inf3 rfl (by decide) 2 rfl (by decide) 2 rfl rfl ?_ | refine A_idx_arr rfl rfl 60 _ _ rfl ud60 inf3 rfl (by decide) 3 rfl (by decide) 3 rfl rfl ?_ | refine A_idx_arr rfl rfl 60 _ _ rfl ud60 inf3 rfl (by decide) 4 rfl (by decide) 4 rfl rfl ?_ | refine A_idx_arr rfl rfl 60 _ _ rfl ud60 inf3 rfl (by decide) 5 rfl (by decide) 5 rfl rfl ?_) | refine uA ?_)) | refine uC ?_ | refine kcp rfl (fun hc => ?_) (fun hc => ?_) | refine kcn rfl (fun hc => ?_) (fun hc => ?_) | refine kcb rfl (fun hc => ?_) (fun hc => ?_) | refine kcc rfl (fun hc => ?_) (fun hc => ?_) | fail)
   all_goals first | (exfalso; omega) | skip
   refine AW.loopP (fun (i : Nat) => i ≤ u.length) (fun (i : Nat) => (pu (pu (pu (pu (pu (fun _ => .any) 4 (.ptr 0 0)) 5 (.ptr 1 0)) 39 (.ln (u.map tTn))) 40 (i64 (u.map tTn).length)) 41 (i64 i))) (fun (i : Nat) => [.box 60 (aSm 0 0 0 0 0 0), .box 60 (aSm n1 n3 n2 i (helpK u i) (batK u i))]) (fun (i : Nat) => u.length - i) (0) ?_ ?_ ?_
   ·exact Nat.zero_le _
   ·exact Wk.cq 2
   ·intro i hi
    by_cases hi2 : i < u.length
    ·obtain ⟨x, hx⟩ : ∃ x, u[i]? = some x := ⟨_, List.getElem?_eq_getElem hi2⟩
     have eh := helpK_next hx
     have eb := batK_next hx
     have h3 : (x.ops.map tOp).length = x.ops.length := List.length_map _
     have h4 := hu2 x (List.mem_of_getElem? hx)
     repeat' (first | ((with_reducible refine kAL ?_); (first | (refine kL 1926 rfl ?_; first | refine A_idx_arr rfl rfl 60 _ _ rfl ud60 inf3 rfl (by decide) 0 rfl (by decide) 0 rfl rfl ?_ | refine A_idx_arr rfl rfl 60 _ _ rfl ud60 inf3 rfl (by decide) 1 rfl (by decide) 1 rfl rfl ?_ | refine A_idx_arr rfl rfl 60 _ _ rfl ud60 inf3 rfl (by decide) 2 rfl (by decide) 2 rfl rfl ?_ | refine A_idx_arr rfl rfl 60 _ _ rfl ud60 inf3 rfl (by decide) 3 rfl (by decide) 3 rfl rfl ?_ | refine A_idx_arr rfl rfl 60 _ _ rfl ud60 inf3 rfl (by decide) 4 rfl (by decide) 4 rfl rfl ?_ | refine A_idx_arr rfl rfl 60 _ _ rfl ud60 inf3 rfl (by decide) 5 rfl (by decide) 5 rfl rfl ?_) | refine uA ?_)) | refine uC ?_ | refine kcp rfl (fun hc => ?_) (fun hc => ?_) | refine kcn rfl (fun hc => ?_) (fun hc => ?_) | refine kcb rfl (fun hc => ?_) (fun hc => ?_) | refine kcc rfl (fun hc => ?_) (fun hc => ?_) | fail)
     all_goals first | (exfalso; omega) | skip
     refine AW.loopP (fun (j : Nat) => j ≤ x.ops.length) (fun (j : Nat) => (pu (pu (pu (pu (pu (pu (pu (pu (pu (fun _ => .any) 4 (.ptr 0 0)) 5 (.ptr 1 0)) 39 (.ln (u.map tTn))) 40 (i64 (u.map tTn).length)) 41 (i64 i)) 9 (.ptr 2 0)) 57 (.t (.lst (x.ops.map tOp)))) 58 (i64 (x.ops.map tOp).length)) 59 (i64 j))) (fun (j : Nat) => [.box 60 (aSm 0 0 0 0 0 0), .box 60 (aSm n1 n3 n2 ((i : Int) + 1) (helpI x (helpK u i) j) (max (batK u i) (x.ops.length : Int))), .box 109 [i64 x.time, i64 x.thread, .t (.lst (x.ops.map tOp))]]) (fun (j : Nat) => x.ops.length - j) (0) ?_ ?_ ?_
     ·exact Nat.zero_le _
     ·rw [h3]
      exact Wk.cq 3
     ·intro j hj
      by_cases hj2 : j < x.ops.length
      ·obtain ⟨o, ho⟩ : ∃ o, x.ops[j]? = some o := ⟨_, List.getElem?_eq_getElem hj2⟩
       have en := helpI_next (h := helpK u i) ho
       unfold helpO at en
       generalize helpI x (helpK u i) j = g at *
       clear eh eb
       by_cases ht : o.thread ≠ x.thread
       ·rw [if_pos ht] at en
        repeat' (first | ((with_reducible refine kAL ?_); (first | (refine kL 1926 rfl ?_; first | refine A_idx_arr rfl rfl 60 _ _ rfl ud60 inf3 rfl (by decide) 0 rfl (by decide) 0 rfl rfl ?_ | refine A_idx_arr rfl rfl 60 _ _ rfl ud60 inf3 rfl (by decide) 1 rfl (by decide) 1 rfl rfl ?_ | refine A_idx_arr rfl rfl 60 _ _ rfl ud60 inf3 rfl (by decide) 2 rfl (by decide) 2 rfl rfl ?_ | refine A_idx_arr rfl rfl 60 _ _ rfl ud60 inf3 rfl (by decide) 3 rfl (by decide) 3 rfl rfl ?_ | refine A_idx_arr rfl rfl 60 _ _ rfl ud60 inf3 rfl (by decide) 4 rfl (by decide) 4 rfl rfl ?_ | refine A_idx_arr rfl rfl 60 _ _ rfl ud60 inf3 rfl (by decide) 5 rfl (by decide) 5 rfl rfl ?_) | refine uA ?_)) | refine uC ?_ | refine kcp rfl (fun hc => ?_) (fun hc => ?_) | refine kcn rfl (fun hc => ?_) (fun hc => ?_) | refine kcb rfl (fun hc => ?_) (fun hc => ?_) | refine kcc rfl (fun hc => ?_) (fun hc => ?_) | fail)
        all_goals first | (exfalso; omega) | skip
        refine ⟨j + 1, by omega, by omega, ?_⟩
        rw [en]
        exact Wk.cq 3
       ·rw [if_neg ht] at en
        repeat' (first | ((with_reducible refine kAL ?_); (first | (refine kL 1926 rfl ?_; first | refine A_idx_arr rfl rfl 60 _ _ rfl ud60 inf3 rfl (by decide) 0 rfl (by decide) 0 rfl rfl ?_ | refine A_idx_arr rfl rfl 60 _ _ rfl ud60 inf3 rfl (by decide) 1 rfl (by decide) 1 rfl rfl ?_ | refine A_idx_arr rfl rfl 60 _ _ rfl ud60 inf3 rfl (by decide) 2 rfl (by decide) 2 rfl rfl ?_ | refine A_idx_arr rfl rfl 60 _ _ rfl ud60 inf3 rfl (by decide) 3 rfl (by decide) 3 rfl rfl ?_ | refine A_idx_arr rfl rfl 60 _ _ rfl ud60 inf3 rfl (by decide) 4 rfl (by decide) 4 rfl rfl ?_ | refine A_idx_arr rfl rfl 60 _ _ rfl ud60 inf3 rfl (by decide) 5 rfl (by decide) 5 rfl rfl ?_) | refine uA ?_)) | refine uC ?_ | refine kcp rfl (fun hc => ?_) (fun hc => ?_) | refine kcn rfl (fun hc => ?_) (fun hc => ?_) | refine kcb rfl (fun hc => ?_) (fun hc => ?_) | refine kcc rfl (fun hc => ?_) (fun hc => ?_) | fail)
        all_goals first | (exfalso; omega) | skip
        refine ⟨j + 1, by omega, by omega, ?_⟩
        rw [en]
        exact Wk.cq 3
      ·have e : j = x.ops.length := by omega
       subst e
       rw [← eh, ← eb]
       repeat' (first | ((with_reducible refine kAL ?_); (first | (refine kL 1926 rfl ?_; first | refine A_idx_arr rfl rfl 60 _ _ rfl ud60 inf3 rfl (by decide) 0 rfl (by decide) 0 rfl rfl ?_ | refine A_idx_arr rfl rfl 60 _ _ rfl ud60 inf3 rfl (by decide) 1 rfl (by decide) 1 rfl rfl ?_ | refine A_idx_arr rfl rfl 60 _ _ rfl ud60 inf3 rfl (by decide) 2 rfl (by decide) 2 rfl rfl ?_ | refine A_idx_arr rfl rfl 60 _ _ rfl ud60 inf3 rfl (by decide) 3 rfl (by decide) 3 rfl rfl ?_ | refine A_idx_arr rfl rfl 60 _ _ rfl ud60 inf3 rfl (by decide) 4 rfl (by decide) 4 rfl rfl ?_ | refine A_idx_arr rfl rfl 60 _ _ rfl ud60 inf3 rfl (by decide) 5 rfl (by decide) 5 rfl rfl ?_) | refine uA ?_)) | refine uC ?_ | refine kcp rfl (fun hc => ?_) (fun hc => ?_) | refine kcn rfl (fun hc => ?_) (fun hc => ?_) | refine kcb rfl (fun hc => ?_) (fun hc => ?_) | refine kcc rfl (fun hc => ?_) (fun hc => ?_) | fail)
       all_goals first | (exfalso; omega) | skip
       refine ⟨i + 1, by omega, by omega, ?_⟩
       exact Wk.cq 2
    ·have e : i = u.length := by omega
     subst e
     repeat' (first | ((with_reducible refine kAL ?_); (first | (refine kL 1926 rfl ?_; first | refine A_idx_arr rfl rfl 60 _ _ rfl ud60 inf3 rfl (by decide) 0 rfl (by decide) 0 rfl rfl ?_ | refine A_idx_arr rfl rfl 60 _ _ rfl ud60 inf3 rfl (by decide) 1 rfl (by decide) 1 rfl rfl ?_ | refine A_idx_arr rfl rfl 60 _ _ rfl ud60 inf3 rfl (by decide) 2 rfl (by decide) 2 rfl rfl ?_ | refine A_idx_arr rfl rfl 60 _ _ rfl ud60 inf3 rfl (by decide) 3 rfl (by decide) 3 rfl rfl ?_ | refine A_idx_arr rfl rfl 60 _ _ rfl ud60 inf3 rfl (by decide) 4 rfl (by decide) 4 rfl rfl ?_ | refine A_idx_arr rfl rfl 60 _ _ rfl ud60 inf3 rfl (by decide) 5 rfl (by decide) 5 rfl rfl ?_) | refine uA ?_)) | refine uC ?_ | refine kcp rfl (fun hc => ?_) (fun hc => ?_) | refine kcn rfl (fun hc => ?_) (fun hc => ?_) | refine kcb rfl (fun hc => ?_) (fun hc => ?_) | refine kcc rfl (fun hc => ?_) (fun hc => ?_) | fail)
     all_goals first | (exfalso; omega) | ((first | exact Fin.q Try.results26 (.cons (.agg rfl rfl ud60 rfl inf60 (us := [_, _, _, _, _, _]) rfl rfl) .nil) [] | refine Fin.q Try.results26 (.cons (.agg rfl rfl ud60 rfl inf60 (us := [_, _, _, _, _, _]) rfl rfl) .nil) [] (hr := (.t ?_)) | refine Fin.mkv (rs := _) Try.results26 (.cons (.agg rfl rfl ud60 rfl inf60 (us := [_, _, _, _, _, _]) rfl rfl) .nil) [] (by decide) rfl ?_ ?_ ?_ <;> repeat' (skip; first | exact .nil | refine .cons rfl ?_ ?_ | refine .cons ?_ ?_ | refine .row ?_ | refine .rset ?_ | refine .box ?_ | exact .gone | refine .aggL ?_ | refine .tupL ?_ | refine .old rfl ?_ | refine .new rfl rfl rfl ?_ | exact .nl | exact .optr rfl | exact .nptr rfl rfl rfl | refine .t ?_ | exact .any _ | rfl)))
theorem sCodes_c (l : List DNote) (hl : l.length ≤ 1152921504606846976) : Cd Try.prog 28 [.ln (l.map tNt)] (.t (.lst ((codL l l.length).map tI))) [] := by
 have h1 : (l.map tNt).length = l.length := List.length_map _
 have h0 : Cd Try.prog 28 [.ln (l.map tNt)] (.sl 0 0 (codL l l.length).length) [.row 0 3 1 ((codL l l.length).map tI)] := by
  rw [codL_len]
  refine Cd.enter' Try.func28 rfl Try.ntmps28 rfl ?_
  repeat' (first | ((with_reducible refine kAL ?_); (first | (refine kL 720 rfl ?_; first | refine A_make rfl rfl 22 _ _ rfl ud22 inf3 rfl (zs := [(.v (.int .i64 0))]) rfl rfl rfl 18 (by first | rfl | assumption | omega) (by first | rfl | assumption | omega) qB qB (by first | exact rep_map (f := tI) (x := _) | exact qN) (.push qL qN) ?_ | refine A_make rfl rfl 22 _ _ rfl ud22 inf3 rfl (zs := [(.v (.int .i64 0))]) rfl rfl rfl _ (by first | rfl | assumption | omega) (by first | rfl | assumption | omega) qB qB (by first | exact rep_map (f := tI) (x := _) | exact qN) (.push qL qN) ?_) | refine uA ?_ | refine uS 20 (fun hb => ?_) (fun hb => ?_) | refine uS 24 (fun hb => ?_) (fun hb => ?_))) | refine uC ?_ | refine kcp rfl (fun hc => ?_) (fun hc => ?_) | refine kcn rfl (fun hc => ?_) (fun hc => ?_) | refine kcb rfl (fun hc => ?_) (fun hc => ?_) | refine kcc rfl (fun hc => ?_) (fun hc => ?_) | fail)
  all_goals first | (exfalso; omega) | skip
  refine AW.loopP (fun (q : Nat) => q ≤ l.length) (fun (q : Nat) => (pu (pu (pu (pu (fun _ => .any) 3 (.sl 0 0 18)) 8 (.ln (l.map tNt))) 9 (i64 (l.map tNt).length)) 10 (i64 q))) (fun (q : Nat) => [.row 0 3 1 ((codL l q).map tI)]) (fun (q : Nat) => l.length - q) (0) ?_ ?_ ?_
  ·exact Nat.zero_le _
  ·rw [codL_zero]
   exact Wk.cq 1
  ·intro q hq
   have hL := codL_len l q
   have hL2 : ((codL l q).map tI).length = 18 := by rw [List.length_map, hL]
   by_cases hq2 : q < l.length
   ·obtain ⟨a, hx⟩ : ∃ a, l[q]? = some a := ⟨_, List.getElem?_eq_getElem hq2⟩
    by_cases hc : a.kind = 3 ∧ 0 ≤ a.result.code ∧ a.result.code < 18
    ·obtain ⟨c1, c2, c3⟩ := hc
     obtain ⟨e, he⟩ : ∃ e : Nat, a.result.code = (e : Int) := ⟨a.result.code.toNat, by omega⟩
     have hn := codL_yes hx c1 he (by omega)
     have hg := codL_get l q (e := e) (by omega)
     have hb := cntC_le l e q
     obtain ⟨ak, ath, asq, atm, ar, ⟨r1, r2, r3, r4⟩⟩ := a
     dsimp only at he c1 c3
     subst he
     unfold cntI at hn hg
     generalize codL l q = Q at *
     clear c2
     repeat' (first | ((with_reducible refine kAL ?_); (first | (refine kL 720 rfl ?_; first | refine A_make rfl rfl 22 _ _ rfl ud22 inf3 rfl (zs := [(.v (.int .i64 0))]) rfl rfl rfl _ (by first | rfl | assumption | omega) (by first | rfl | assumption | omega) qB qB (by first | exact rep_map (f := tI) (x := _) | exact qN) (.push qL qN) ?_) | refine uA ?_ | refine uS 20 (fun hb => ?_) (fun hb => ?_) | refine uS 24 (fun hb => ?_) (fun hb => ?_))) | refine uC ?_ | refine kcp rfl (fun hc => ?_) (fun hc => ?_) | refine kcn rfl (fun hc => ?_) (fun hc => ?_) | refine kcb rfl (fun hc => ?_) (fun hc => ?_) | refine kcc rfl (fun hc => ?_) (fun hc => ?_) | fail)
     all_goals first | (exfalso; omega) | skip
     refine ⟨q + 1, by omega, by omega, ?_⟩
     rw [hn]
     exact Wk.cq 1
    ·have hn := codL_no hx hc
     generalize codL l q = Q at *
     by_cases k3 : a.kind = 3
     ·by_cases k4 : 0 ≤ a.result.code
      all_goals
       repeat' (first | ((with_reducible refine kAL ?_); (first | (refine kL 720 rfl ?_; first | refine A_make rfl rfl 22 _ _ rfl ud22 inf3 rfl (zs := [(.v (.int .i64 0))]) rfl rfl rfl _ (by first | rfl | assumption | omega) (by first | rfl | assumption | omega) qB qB (by first | exact qN) (.push qL qN) ?_) | refine uA ?_ | refine uS 20 (fun hb => ?_) (fun hb => ?_) | refine uS 24 (fun hb => ?_) (fun hb => ?_))) | refine uC ?_ | refine kcp rfl (fun hc => ?_) (fun hc => ?_) | refine kcn rfl (fun hc => ?_) (fun hc => ?_) | refine kcb rfl (fun hc => ?_) (fun hc => ?_) | refine kcc rfl (fun hc => ?_) (fun hc => ?_) | fail)
       all_goals first | (exfalso; omega) | skip
       refine ⟨q + 1, by omega, by omega, ?_⟩
       rw [hn]
       exact Wk.cq 1
     ·repeat' (first | ((with_reducible refine kAL ?_); (first | (refine kL 720 rfl ?_; first | refine A_make rfl rfl 22 _ _ rfl ud22 inf3 rfl (zs := [(.v (.int .i64 0))]) rfl rfl rfl _ (by first | rfl | assumption | omega) (by first | rfl | assumption | omega) qB qB (by first | exact qN) (.push qL qN) ?_) | refine uA ?_ | refine uS 20 (fun hb => ?_) (fun hb => ?_) | refine uS 24 (fun hb => ?_) (fun hb => ?_))) | refine uC ?_ | refine kcp rfl (fun hc => ?_) (fun hc => ?_) | refine kcn rfl (fun hc => ?_) (fun hc => ?_) | refine kcb rfl (fun hc => ?_) (fun hc => ?_) | refine kcc rfl (fun hc => ?_) (fun hc => ?_) | fail)
      all_goals first | (exfalso; omega) | skip
      refine ⟨q + 1, by omega, by omega, ?_⟩
      rw [hn]
      exact Wk.cq 1
   ·have e : q = l.length := by omega
    subst e
    repeat' (first | ((with_reducible refine kAL ?_); (first | (refine kL 720 rfl ?_; first | refine A_make rfl rfl 22 _ _ rfl ud22 inf3 rfl (zs := [(.v (.int .i64 0))]) rfl rfl rfl _ (by first | rfl | assumption | omega) (by first | rfl | assumption | omega) qB qB (by first | exact qN) (.push qL qN) ?_) | refine uA ?_ | refine uS 20 (fun hb => ?_) (fun hb => ?_) | refine uS 24 (fun hb => ?_) (fun hb => ?_))) | refine uC ?_ | refine kcp rfl (fun hc => ?_) (fun hc => ?_) | refine kcn rfl (fun hc => ?_) (fun hc => ?_) | refine kcb rfl (fun hc => ?_) (fun hc => ?_) | refine kcc rfl (fun hc => ?_) (fun hc => ?_) | fail)
    all_goals first | (exfalso; omega) | ((first | exact Fin.q Try.results28 (.cons (.tmp rfl) .nil) [0] | refine Fin.q Try.results28 (.cons (.tmp rfl) .nil) [0] (hr := (.t ?_)) | refine Fin.mkv (rs := _) Try.results28 (.cons (.tmp rfl) .nil) [0] (by decide) rfl ?_ ?_ ?_ <;> repeat' (skip; first | exact .nil | refine .cons rfl ?_ ?_ | refine .cons ?_ ?_ | refine .row ?_ | refine .rset ?_ | refine .box ?_ | exact .gone | refine .aggL ?_ | refine .tupL ?_ | refine .old rfl ?_ | refine .new rfl rfl rfl ?_ | exact .nl | exact .optr rfl | exact .nptr rfl rfl rfl | refine .t ?_ | exact .any _ | rfl)))
 generalize codL l l.length = Q at *
 have h0' := Cd.frz1 h0 0 rfl (by repeat' (first | exact FzL.nil | apply FzL.cons | exact FzR.nlt | exact FzR.all (by first | rfl | (simp <;> fail) | (simp; omega)) | exact FzR.sl (by first | exact Nat.le_refl _ | (simp <;> fail) | (simp; omega)) | apply FzR.aggL | exact FzR.same _)) rfl; exact Cd.drop h0' rfl
theorem rCodes_c (l : List DNote) (hl : l.length ≤ 1152921504606846976) : Cd Try.prog 29 [.ln (l.map tNt)] (.t (.lst ((codL l l.length).map tI))) [] := by
 have h1 : (l.map tNt).length = l.length := List.length_map _
 have h0 : Cd Try.prog 29 [.ln (l.map tNt)] (.sl 0 0 (codL l l.length).length) [.row 0 3 1 ((codL l l.length).map tI)] := by
  rw [codL_len]
  refine Cd.enter' Try.func29 rfl Try.ntmps29 rfl ?_
  repeat' (first | ((with_reducible refine kAL ?_); (first | (refine kL 12 rfl ?_; first | refine A_append_nlsub rfl rfl _ _ 22 rfl ud22 inf3 rfl rfl rfl rfl (by (try simp only [List.length_map, List.length_append, List.length_cons, List.length_nil]); omega) qB qB List.map_drop.symm (.push qL qN) ?_) | (refine kL 719 rfl ?_; first | refine A_lit rfl rfl 22 1 _ rfl ud22 inf3 (.cons rfl .nil) (els := [[_]]) rfl (by first | exact qN) rfl (Nat.ne_of_beq_eq_false rfl) (Nat.le_of_ble_eq_true rfl) (Nat.le_of_ble_eq_true rfl) (.push qL qN) ?_) | refine uA ?_ | refine uS 21 (fun hb => ?_) (fun hb => ?_))) | refine uC ?_ | refine kcp rfl (fun hc => ?_) (fun hc => ?_) | refine kcn rfl (fun hc => ?_) (fun hc => ?_) | refine kcb rfl (fun hc => ?_) (fun hc => ?_) | refine kcc rfl (fun hc => ?_) (fun hc => ?_) | fail)
  all_goals first | (exfalso; omega) | skip
  refine AW.wk (Wk.own 3 rfl 3 1 (.push rfl rfl)) ?_
  refine AW.loopP (fun (e : Nat) => e ≤ 18) (fun (e : Nat) => (pu (pu (pu (fun _ => .any) 0 (.ln (l.map tNt))) 3 (.sl 0 e e)) 4 (i64 e))) (fun (e : Nat) => [.row e 3 1 (((List.range e).map (cntI l l.length)).map tI)]) (fun (e : Nat) => 18 - e) (0) ?_ ?_ ?_
  ·exact Nat.zero_le _
  ·exact Wk.cq 1
  ·intro e he
   by_cases he2 : e < 18
   ·have hn : (List.range (e + 1)).map (cntI l l.length) = (List.range e).map (cntI l l.length) ++ [cntI l l.length e] := by rw [List.range_succ, List.map_append]; rfl
    have hL : ((List.range e).map (cntI l l.length)).length = e := by rw [List.length_map, List.length_range]
    generalize (List.range e).map (cntI l l.length) = Q at *
    have hL2 : (Q.map tI).length = e := by rw [List.length_map, hL]
    repeat' (first | ((with_reducible refine kAL ?_); (first | (refine kL 12 rfl ?_; first | refine A_append_nlsub rfl rfl _ _ 22 rfl ud22 inf3 rfl rfl rfl rfl (by (try simp only [List.length_map, List.length_append, List.length_cons, List.length_nil]); omega) qB qB List.map_drop.symm (.push qL qN) ?_) | (refine kL 719 rfl ?_; first | refine A_lit rfl rfl 22 1 _ rfl ud22 inf3 (.cons rfl .nil) (els := [[_]]) rfl (by first | exact qN) rfl (Nat.ne_of_beq_eq_false rfl) (Nat.le_of_ble_eq_true rfl) (Nat.le_of_ble_eq_true rfl) (.push qL qN) ?_) | refine uA ?_ | refine uS 21 (fun hb => ?_) (fun hb => ?_))) | refine uC ?_ | refine kcp rfl (fun hc => ?_) (fun hc => ?_) | refine kcn rfl (fun hc => ?_) (fun hc => ?_) | refine kcb rfl (fun hc => ?_) (fun hc => ?_) | refine kcc rfl (fun hc => ?_) (fun hc => ?_) | fail)
    all_goals first | (exfalso; omega) | skip
    refine AW.loopP (fun (q : Nat) => q ≤ l.length) (fun (q : Nat) => (pu (pu (pu (pu (pu (pu (pu (fun _ => .any) 0 (.ln (l.map tNt))) 3 (.sl 0 e e)) 4 (i64 e)) 5 (i64 (cntC l e q : Nat))) 12 (.ln (l.map tNt))) 13 (i64 (l.map tNt).length)) 14 (i64 q))) (fun (q : Nat) => [.row e 3 1 (Q.map tI)]) (fun (q : Nat) => l.length - q) (0) ?_ ?_ ?_
    ·exact Nat.zero_le _
    ·exact Wk.cq 1
    ·intro q hq
     by_cases hq2 : q < l.length
     ·obtain ⟨a, hx⟩ : ∃ a, l[q]? = some a := ⟨_, List.getElem?_eq_getElem hq2⟩
      have hb := cntC_le l e q
      have hs := cntC_next (e := e) hx
      by_cases k3 : a.kind = 3
      ·by_cases k4 : a.result.code = (e : Int)
       ·rw [if_pos ⟨k3, k4⟩] at hs
        generalize cntC l e q = cq at *
        repeat' (first | ((with_reducible refine kAL ?_); (first | (refine kL 12 rfl ?_; first | refine A_append_nlsub rfl rfl _ _ 22 rfl ud22 inf3 rfl rfl rfl rfl (by (try simp only [List.length_map, List.length_append, List.length_cons, List.length_nil]); omega) qB qB List.map_drop.symm (.push qL qN) ?_) | (refine kL 719 rfl ?_; first | refine A_lit rfl rfl 22 1 _ rfl ud22 inf3 (.cons rfl .nil) (els := [[_]]) rfl (by first | exact qN) rfl (Nat.ne_of_beq_eq_false rfl) (Nat.le_of_ble_eq_true rfl) (Nat.le_of_ble_eq_true rfl) (.push qL qN) ?_) | refine uA ?_ | refine uS 21 (fun hb => ?_) (fun hb => ?_))) | refine uC ?_ | refine kcp rfl (fun hc => ?_) (fun hc => ?_) | refine kcn rfl (fun hc => ?_) (fun hc => ?_) | refine kcb rfl (fun hc => ?_) (fun hc => ?_) | refine kcc rfl (fun hc => ?_) (fun hc => ?_) | fail)
        all_goals first | (exfalso; omega) | skip
        refine ⟨q + 1, by omega, by omega, ?_⟩
        rw [hs]
        exact Wk.cq 1
       ·rw [if_neg (fun g => k4 g.2)] at hs
        generalize cntC l e q = cq at *
        repeat' (first | ((with_reducible refine kAL ?_); (first | (refine kL 12 rfl ?_; first | refine A_append_nlsub rfl rfl _ _ 22 rfl ud22 inf3 rfl rfl rfl rfl (by (try simp only [List.length_map, List.length_append, List.length_cons, List.length_nil]); omega) qB qB List.map_drop.symm (.push qL qN) ?_) | (refine kL 719 rfl ?_; first | refine A_lit rfl rfl 22 1 _ rfl ud22 inf3 (.cons rfl .nil) (els := [[_]]) rfl (by first | exact qN) rfl (Nat.ne_of_beq_eq_false rfl) (Nat.le_of_ble_eq_true rfl) (Nat.le_of_ble_eq_true rfl) (.push qL qN) ?_) | refine uA ?_ | refine uS 21 (fun hb => ?_) (fun hb => ?_))) | refine uC ?_ | refine kcp rfl (fun hc => ?_) (fun hc => ?_) | refine kcn rfl (fun hc => ?_) (fun hc => ?_) | refine kcb rfl (fun hc => ?_) (fun hc => ?_) | refine kcc rfl (fun hc => ?_) (fun hc => ?_) | fail)
        all_goals first | (exfalso; omega) | skip
        refine ⟨q + 1, by omega, by omega, ?_⟩
        rw [hs]
        exact Wk.cq 1
      ·rw [if_neg (fun g => k3 g.1)] at hs
       generalize cntC l e q = cq at *
       repeat' (first | ((with_reducible refine kAL ?_); (first | (refine kL 12 rfl ?_; first | refine A_append_nlsub rfl rfl _ _ 22 rfl ud22 inf3 rfl rfl rfl rfl (by (try simp only [List.length_map, List.length_append, List.length_cons, List.length_nil]); omega) qB qB List.map_drop.symm (.push qL qN) ?_) | (refine kL 719 rfl ?_; first | refine A_lit rfl rfl 22 1 _ rfl ud22 inf3 (.cons rfl .nil) (els := [[_]]) rfl (by first | exact qN) rfl (Nat.ne_of_beq_eq_false rfl) (Nat.le_of_ble_eq_true rfl) (Nat.le_of_ble_eq_true rfl) (.push qL qN) ?_) | refine uA ?_ | refine uS 21 (fun hb => ?_) (fun hb => ?_))) | refine uC ?_ | refine kcp rfl (fun hc => ?_) (fun hc => ?_) | refine kcn rfl (fun hc => ?_) (fun hc => ?_) | refine kcb rfl (fun hc => ?_) (fun hc => ?_) | refine kcc rfl (fun hc => ?_) (fun hc => ?_) | fail)
       all_goals first | (exfalso; omega) | skip
       refine ⟨q + 1, by omega, by omega, ?_⟩
       rw [hs]
       exact Wk.cq 1
     ·have eq : q = l.length := by omega
      subst eq
      rw [show cntI l l.length e = ((cntC l e l.length : Nat) : Int) from rfl] at hn
      repeat' (first | ((with_reducible refine kAL ?_); (first | (refine kL 12 rfl ?_; first | refine A_append_nlsub rfl rfl _ _ 22 rfl ud22 inf3 rfl rfl rfl rfl (by (try simp only [List.length_map, List.length_append, List.length_cons, List.length_nil]); omega) qB qB List.map_drop.symm (.push qL qN) ?_) | (refine kL 719 rfl ?_; first | refine A_lit rfl rfl 22 1 _ rfl ud22 inf3 (.cons rfl .nil) (els := [[_]]) rfl (by first | exact (rfl : _ = List.map tI [_]) | exact qN) rfl (Nat.ne_of_beq_eq_false rfl) (Nat.le_of_ble_eq_true rfl) (Nat.le_of_ble_eq_true rfl) (.push qL qN) ?_) | refine uA ?_ | refine uS 21 (fun hb => ?_) (fun hb => ?_))) | refine uC ?_ | refine kcp rfl (fun hc => ?_) (fun hc => ?_) | refine kcn rfl (fun hc => ?_) (fun hc => ?_) | refine kcb rfl (fun hc => ?_) (fun hc => ?_) | refine kcc rfl (fun hc => ?_) (fun hc => ?_) | fail)
      all_goals first | (exfalso; omega) | skip
      refine ⟨e + 1, by omega, by omega, ?_⟩
      rw [hn]
      exact Wk.cq 1
   ·have eq : e = 18 := by omega
    subst eq
    repeat' (first | ((with_reducible refine kAL ?_); (first | (refine kL 12 rfl ?_; first | refine A_append_nlsub rfl rfl _ _ 22 rfl ud22 inf3 rfl rfl rfl rfl (by (try simp only [List.length_map, List.length_append, List.length_cons, List.length_nil]); omega) qB qB List.map_drop.symm (.push qL qN) ?_) | (refine kL 719 rfl ?_; first | refine A_lit rfl rfl 22 1 _ rfl ud22 inf3 (.cons rfl .nil) (els := [[_]]) rfl (by first | exact qN) rfl (Nat.ne_of_beq_eq_false rfl) (Nat.le_of_ble_eq_true rfl) (Nat.le_of_ble_eq_true rfl) (.push qL qN) ?_) | refine uA ?_ | refine uS 21 (fun hb => ?_) (fun hb => ?_))) | refine uC ?_ | refine kcp rfl (fun hc => ?_) (fun hc => ?_) | refine kcn rfl (fun hc => ?_) (fun hc => ?_) | refine kcb rfl (fun hc => ?_) (fun hc => ?_) | refine kcc rfl (fun hc => ?_) (fun hc => ?_) | fail)
    all_goals first | (exfalso; omega) | ((first | exact Fin.q Try.results29 (.cons (.tmp rfl) .nil) [0] | refine Fin.q Try.results29 (.cons (.tmp rfl) .nil) [0] (hr := (.t ?_)) | refine Fin.mkv (rs := _) Try.results29 (.cons (.tmp rfl) .nil) [0] (by decide) rfl ?_ ?_ ?_ <;> repeat' (skip; first | exact .nil | refine .cons rfl ?_ ?_ | refine .cons ?_ ?_ | refine .row ?_ | refine .rset ?_ | refine .box ?_ | exact .gone | refine .aggL ?_ | refine .tupL ?_ | refine .old rfl ?_ | refine .new rfl rfl rfl ?_ | exact .nl | exact .optr rfl | exact .nptr rfl rfl rfl | refine .t ?_ | exact .any _ | rfl)))
 generalize codL l l.length = Q at *
 have h0' := Cd.frz1 h0 0 rfl (by repeat' (first | exact FzL.nil | apply FzL.cons | exact FzR.nlt | exact FzR.all (by first | rfl | (simp <;> fail) | (simp; omega)) | exact FzR.sl (by first | exact Nat.le_refl _ | (simp <;> fail) | (simp; omega)) | apply FzR.aggL | exact FzR.same _)) rfl; exact Cd.drop h0' rfl
end
end Go.Proofs.Ytnibnbcmnaflmaa
