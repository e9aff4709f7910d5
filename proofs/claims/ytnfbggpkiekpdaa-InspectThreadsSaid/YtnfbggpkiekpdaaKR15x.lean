/- Joined: XTInsp. -/
import Derived.Test.YtnfbggpkiekpdaaKR15h
import Derived.Test.YtnfbggpkiekpdaaKR15w
import Derived.Test.YtnfbggpkiekpdaaKR15j
import Derived.Test.YtnfbggpkiekpdaaKR15d
namespace Go.Proofs.Ytnfbggpkiekpdaa
open Go.RowKit
set_option linter.unusedVariables false
set_option linter.unusedSimpArgs false
set_option linter.unnecessarySimpa false
set_option maxRecDepth 100000
set_option maxHeartbeats 64000000
section
attribute [local irreducible] AL AW RG Fin C Cd Cio thenQ blockQ retQ
set_option maxRecDepth 100000
theorem ifits_c (c : DConf) (hs : c.start.length ≤ 1152921504606846976) (l : List Int) : Cd Try.prog 60 [aCf c, .ln (l.map tU)] (bo (fitM c l)) [] := by
 have h1 : (l.map tU).length = l.length := List.length_map _
 have c1 := chkL_c c hs
 have c2 := totL_c c hs
 unfold fitM
 by_cases hk : chkL c = 0
 ·rw [hk] at c1
  rw [show decide (chkL c = 0 ∧ (l.length : Int) = totL c) = decide ((l.length : Int) = totL c) from decide_eq_decide.2 ⟨fun g => g.2, fun g => ⟨hk, g⟩⟩]
  generalize totL c = g8 at *
  by_cases hl : (l.length : Int) = g8
  ·rw [decide_eq_true hl]
   refine Cd.enter' Try.func60 rfl Try.ntmps60 rfl ?_
   repeat' (first | ((with_reducible refine kAL ?_); (first | (refine kL 1290 rfl ?_; first | refine uK (c1) ?_) | (refine kL 1226 rfl ?_; first | refine uK (c2) ?_) | refine uA ?_ | refine uS 8 (fun hb => ?_) (fun hb => ?_))) | refine uC ?_ | refine kcp rfl (fun hc => ?_) (fun hc => ?_) | refine kcn rfl (fun hc => ?_) (fun hc => ?_) | refine kcb rfl (fun hc => ?_) (fun hc => ?_) | refine kcc rfl (fun hc => ?_) (fun hc => ?_) | fail)
   all_goals first | (exfalso; omega) | ((first | exact Fin.q Try.results60 (.cons (.tmp rfl) .nil) [] | refine Fin.q Try.results60 (.cons (.tmp rfl) .nil) [] (hr := (.t ?_)) | refine Fin.mkv (rs := _) Try.results60 (.cons (.tmp rfl) .nil) [] (by decide) rfl ?_ ?_ ?_ <;> repeat' (skip; first | exact .nil | refine .cons rfl ?_ ?_ | refine .cons ?_ ?_ | refine .row ?_ | refine .rset ?_ | refine .box ?_ | exact .gone | refine .aggL ?_ | refine .tupL ?_ | refine .old rfl ?_ | refine .new rfl rfl rfl ?_ | exact .nl | exact .optr rfl | exact .nptr rfl rfl rfl | refine .t ?_ | exact .any _ | rfl)))
  ·rw [decide_eq_false hl]
   refine Cd.enter' Try.func60 rfl Try.ntmps60 rfl ?_
   repeat' (first | ((with_reducible refine kAL ?_); (first | (refine kL 1290 rfl ?_; first | refine uK (c1) ?_) | (refine kL 1226 rfl ?_; first | refine uK (c2) ?_) | refine uA ?_ | refine uS 8 (fun hb => ?_) (fun hb => ?_))) | refine uC ?_ | refine kcp rfl (fun hc => ?_) (fun hc => ?_) | refine kcn rfl (fun hc => ?_) (fun hc => ?_) | refine kcb rfl (fun hc => ?_) (fun hc => ?_) | refine kcc rfl (fun hc => ?_) (fun hc => ?_) | fail)
   all_goals first | (exfalso; omega) | ((first | exact Fin.q Try.results60 (.cons (.tmp rfl) .nil) [] | refine Fin.q Try.results60 (.cons (.tmp rfl) .nil) [] (hr := (.t ?_)) | refine Fin.mkv (rs := _) Try.results60 (.cons (.tmp rfl) .nil) [] (by decide) rfl ?_ ?_ ?_ <;> repeat' (skip; first | exact .nil | refine .cons rfl ?_ ?_ | refine .cons ?_ ?_ | refine .row ?_ | refine .rset ?_ | refine .box ?_ | exact .gone | refine .aggL ?_ | refine .tupL ?_ | refine .old rfl ?_ | refine .new rfl rfl rfl ?_ | exact .nl | exact .optr rfl | exact .nptr rfl rfl rfl | refine .t ?_ | exact .any _ | rfl)))
 ·rw [decide_eq_false (fun g => hk g.1)]
  generalize chkL c = g9 at *
  refine Cd.enter' Try.func60 rfl Try.ntmps60 rfl ?_
  repeat' (first | ((with_reducible refine kAL ?_); (first | (refine kL 1290 rfl ?_; first | refine uK (c1) ?_) | refine uA ?_ | refine uS 8 (fun hb => ?_) (fun hb => ?_))) | refine uC ?_ | refine kcp rfl (fun hc => ?_) (fun hc => ?_) | refine kcn rfl (fun hc => ?_) (fun hc => ?_) | refine kcb rfl (fun hc => ?_) (fun hc => ?_) | refine kcc rfl (fun hc => ?_) (fun hc => ?_) | fail)
  all_goals first | (exfalso; omega) | ((first | exact Fin.q Try.results60 (.cons (.tmp rfl) .nil) [] | refine Fin.q Try.results60 (.cons (.tmp rfl) .nil) [] (hr := (.t ?_)) | refine Fin.mkv (rs := _) Try.results60 (.cons (.tmp rfl) .nil) [] (by decide) rfl ?_ ?_ ?_ <;> repeat' (skip; first | exact .nil | refine .cons rfl ?_ ?_ | refine .cons ?_ ?_ | refine .row ?_ | refine .rset ?_ | refine .box ?_ | exact .gone | refine .aggL ?_ | refine .tupL ?_ | refine .old rfl ?_ | refine .new rfl rfl rfl ?_ | exact .nl | exact .optr rfl | exact .nptr rfl rfl rfl | refine .t ?_ | exact .any _ | rfl)))
theorem rfits_c (c : DConf) (hs : c.start.length ≤ 1152921504606846976) (l : List Int) : Cd Try.prog 62 [aCf c, .ln (l.map tU)] (bo (fitM c l)) [] := by
 have h1 : (l.map tU).length = l.length := List.length_map _
 have c1 := rchkL_c c hs
 have c2 := rtotL_c c hs
 unfold fitM
 by_cases hk : chkL c = 0
 ·rw [hk] at c1
  rw [show decide (chkL c = 0 ∧ (l.length : Int) = totL c) = decide ((l.length : Int) = totL c) from decide_eq_decide.2 ⟨fun g => g.2, fun g => ⟨hk, g⟩⟩]
  generalize totL c = g8 at *
  by_cases hl : (l.length : Int) = g8
  ·rw [decide_eq_true hl]
   refine Cd.enter' Try.func62 rfl Try.ntmps62 rfl ?_
   repeat' (first | ((with_reducible refine kAL ?_); (first | (refine kL 1322 rfl ?_; first | refine uK (c1) ?_) | (refine kL 1258 rfl ?_; first | refine uK (c2) ?_) | refine uA ?_ | refine uS 8 (fun hb => ?_) (fun hb => ?_))) | refine uC ?_ | refine kcp rfl (fun hc => ?_) (fun hc => ?_) | refine kcn rfl (fun hc => ?_) (fun hc => ?_) | refine kcb rfl (fun hc => ?_) (fun hc => ?_) | refine kcc rfl (fun hc => ?_) (fun hc => ?_) | fail)
   all_goals first | (exfalso; omega) | ((first | exact Fin.q Try.results62 (.cons (.tmp rfl) .nil) [] | refine Fin.q Try.results62 (.cons (.tmp rfl) .nil) [] (hr := (.t ?_)) | refine Fin.mkv (rs := _) Try.results62 (.cons (.tmp rfl) .nil) [] (by decide) rfl ?_ ?_ ?_ <;> repeat' (skip; first | exact .nil | refine .cons rfl ?_ ?_ | refine .cons ?_ ?_ | refine .row ?_ | refine .rset ?_ | refine .box ?_ | exact .gone | refine .aggL ?_ | refine .tupL ?_ | refine .old rfl ?_ | refine .new rfl rfl rfl ?_ | exact .nl | exact .optr rfl | exact .nptr rfl rfl rfl | refine .t ?_ | exact .any _ | rfl)))
  ·rw [decide_eq_false hl]
   refine Cd.enter' Try.func62 rfl Try.ntmps62 rfl ?_
   repeat' (first | ((with_reducible refine kAL ?_); (first | (refine kL 1322 rfl ?_; first | refine uK (c1) ?_) | (refine kL 1258 rfl ?_; first | refine uK (c2) ?_) | refine uA ?_ | refine uS 8 (fun hb => ?_) (fun hb => ?_))) | refine uC ?_ | refine kcp rfl (fun hc => ?_) (fun hc => ?_) | refine kcn rfl (fun hc => ?_) (fun hc => ?_) | refine kcb rfl (fun hc => ?_) (fun hc => ?_) | refine kcc rfl (fun hc => ?_) (fun hc => ?_) | fail)
   all_goals first | (exfalso; omega) | ((first | exact Fin.q Try.results62 (.cons (.tmp rfl) .nil) [] | refine Fin.q Try.results62 (.cons (.tmp rfl) .nil) [] (hr := (.t ?_)) | refine Fin.mkv (rs := _) Try.results62 (.cons (.tmp rfl) .nil) [] (by decide) rfl ?_ ?_ ?_ <;> repeat' (skip; first | exact .nil | refine .cons rfl ?_ ?_ | refine .cons ?_ ?_ | refine .row ?_ | refine .rset ?_ | refine .box ?_ | exact .gone | refine .aggL ?_ | refine .tupL ?_ | refine .old rfl ?_ | refine .new rfl rfl rfl ?_ | exact .nl | exact .optr rfl | exact .nptr rfl rfl rfl | refine .t ?_ | exact .any _ | rfl)))
 ·rw [decide_eq_false (fun g => hk g.1)]
  generalize chkL c = g9 at *
  refine Cd.enter' Try.func62 rfl Try.ntmps62 rfl ?_
  repeat' (first | ((with_reducible refine kAL ?_); (first | (refine kL 1322 rfl ?_; first | refine uK (c1) ?_) | refine uA ?_ | refine uS 8 (fun hb => ?_) (fun hb => ?_))) | refine uC ?_ | refine kcp rfl (fun hc => ?_) (fun hc => ?_) | refine kcn rfl (fun hc => ?_) (fun hc => ?_) | refine kcb rfl (fun hc => ?_) (fun hc => ?_) | refine kcc rfl (fun hc => ?_) (fun hc => ?_) | fail)
  all_goals first | (exfalso; omega) | ((first | exact Fin.q Try.results62 (.cons (.tmp rfl) .nil) [] | refine Fin.q Try.results62 (.cons (.tmp rfl) .nil) [] (hr := (.t ?_)) | refine Fin.mkv (rs := _) Try.results62 (.cons (.tmp rfl) .nil) [] (by decide) rfl ?_ ?_ ?_ <;> repeat' (skip; first | exact .nil | refine .cons rfl ?_ ?_ | refine .cons ?_ ?_ | refine .row ?_ | refine .rset ?_ | refine .box ?_ | exact .gone | refine .aggL ?_ | refine .tupL ?_ | refine .old rfl ?_ | refine .new rfl rfl rfl ?_ | exact .nl | exact .optr rfl | exact .nptr rfl rfl rfl | refine .t ?_ | exact .any _ | rfl)))
theorem itag_c (c : DConf) (hs : c.start.length ≤ 1152921504606846976) (l : List Int) (hU : okU l) (i : Int) : Cd Try.prog 86 [aCf c, .ln (l.map tU), i64 i] (i64 (tagM c l i)) [] := by
 have h1 : (l.map tU).length = l.length := List.length_map _
 have c1 := ifits_c c hs l
 unfold tagM nodeOk
 cases hf : fitM c l
 ·rw [hf] at c1
  rw [Bool.false_and, if_neg (by simp)]
  refine Cd.enter' Try.func86 rfl Try.ntmps86 rfl ?_
  repeat' (first | ((with_reducible refine kAL ?_); (first | (refine kL 1930 rfl ?_; first | refine uK (c1) ?_) | (refine kL 2217 rfl ?_; first | refine A_bits rfl rfl .and 69 69 _ _ rfl rfl rfl rfl (and_lit 32 (M := 4294967296) rfl rfl (by omega) (by omega) (by omega)) ?_ | refine A_bits rfl rfl .and 69 69 _ _ rfl rfl rfl rfl rfl ?_) | refine uA ?_ | refine uS 11 (fun hb => ?_) (fun hb => ?_) | refine uS 15 (fun hb => ?_) (fun hb => ?_))) | refine uC ?_ | refine kcp rfl (fun hc => ?_) (fun hc => ?_) | refine kcn rfl (fun hc => ?_) (fun hc => ?_) | refine kcb rfl (fun hc => ?_) (fun hc => ?_) | refine kcc rfl (fun hc => ?_) (fun hc => ?_) | fail)
  all_goals first | (exfalso; omega) | ((first | exact Fin.q Try.results86 (.cons (.tmp rfl) .nil) [] | refine Fin.q Try.results86 (.cons (.tmp rfl) .nil) [] (hr := (.t ?_)) | refine Fin.mkv (rs := _) Try.results86 (.cons (.tmp rfl) .nil) [] (by decide) rfl ?_ ?_ ?_ <;> repeat' (skip; first | exact .nil | refine .cons rfl ?_ ?_ | refine .cons ?_ ?_ | refine .row ?_ | refine .rset ?_ | refine .box ?_ | exact .gone | refine .aggL ?_ | refine .tupL ?_ | refine .old rfl ?_ | refine .new rfl rfl rfl ?_ | exact .nl | exact .optr rfl | exact .nptr rfl rfl rfl | refine .t ?_ | exact .any _ | rfl)))
 ·obtain ⟨T, X, F⟩ := fm_of hf
  have c2 := nodesL_c c hs
  rw [hf] at c1
  rw [Bool.true_and]
  by_cases hi : 0 ≤ i ∧ i < nodesL c
  ·rw [decide_eq_true hi, if_pos rfl]
   obtain ⟨n, m, e1, e2, e3, e4, e5⟩ := F.next hi.1 hi.2
   have c3 := nodeL_c c hs i
   rw [e1] at c3 ⊢
   rw [Int.toNat_natCast]
   obtain ⟨w1, w2, w3⟩ := u_at hU (n := n) (by omega)
   generalize l.getD n 0 = w at *
   generalize nodesL c = g6 at *
   clear F e1 e2
   refine Cd.enter' Try.func86 rfl Try.ntmps86 rfl ?_
   repeat' (first | ((with_reducible refine kAL ?_); (first | (refine kL 1930 rfl ?_; first | refine uK (c1) ?_) | (refine kL 1098 rfl ?_; first | refine uK (c2) ?_) | (refine kL 1162 rfl ?_; first | refine uK (c3) ?_) | (refine kL 2217 rfl ?_; first | refine A_bits rfl rfl .and 69 69 _ _ rfl rfl rfl rfl (and_lit 32 (M := 4294967296) rfl rfl (by omega) (by omega) (by omega)) ?_ | refine A_bits rfl rfl .and 69 69 _ _ rfl rfl rfl rfl rfl ?_) | refine uA ?_ | refine uS 11 (fun hb => ?_) (fun hb => ?_) | refine uS 15 (fun hb => ?_) (fun hb => ?_))) | refine uC ?_ | refine kcp rfl (fun hc => ?_) (fun hc => ?_) | refine kcn rfl (fun hc => ?_) (fun hc => ?_) | refine kcb rfl (fun hc => ?_) (fun hc => ?_) | refine kcc rfl (fun hc => ?_) (fun hc => ?_) | fail)
   all_goals first | (exfalso; omega) | ((first | exact Fin.q Try.results86 (.cons (.tmp rfl) .nil) [] | refine Fin.q Try.results86 (.cons (.tmp rfl) .nil) [] (hr := (.t ?_)) | refine Fin.mkv (rs := _) Try.results86 (.cons (.tmp rfl) .nil) [] (by decide) rfl ?_ ?_ ?_ <;> repeat' (skip; first | exact .nil | refine .cons rfl ?_ ?_ | refine .cons ?_ ?_ | refine .row ?_ | refine .rset ?_ | refine .box ?_ | exact .gone | refine .aggL ?_ | refine .tupL ?_ | refine .old rfl ?_ | refine .new rfl rfl rfl ?_ | exact .nl | exact .optr rfl | exact .nptr rfl rfl rfl | refine .t ?_ | exact .any _ | rfl)))
  ·rw [decide_eq_false hi, if_neg (by simp)]
   generalize nodesL c = g6 at *
   clear F
   by_cases h0 : 0 ≤ i
   all_goals
    refine Cd.enter' Try.func86 rfl Try.ntmps86 rfl ?_
    repeat' (first | ((with_reducible refine kAL ?_); (first | (refine kL 1930 rfl ?_; first | refine uK (c1) ?_) | (refine kL 1098 rfl ?_; first | refine uK (c2) ?_) | (refine kL 2217 rfl ?_; first | refine A_bits rfl rfl .and 69 69 _ _ rfl rfl rfl rfl (and_lit 32 (M := 4294967296) rfl rfl (by omega) (by omega) (by omega)) ?_ | refine A_bits rfl rfl .and 69 69 _ _ rfl rfl rfl rfl rfl ?_) | refine uA ?_ | refine uS 11 (fun hb => ?_) (fun hb => ?_) | refine uS 15 (fun hb => ?_) (fun hb => ?_))) | refine uC ?_ | refine kcp rfl (fun hc => ?_) (fun hc => ?_) | refine kcn rfl (fun hc => ?_) (fun hc => ?_) | refine kcb rfl (fun hc => ?_) (fun hc => ?_) | refine kcc rfl (fun hc => ?_) (fun hc => ?_) | fail)
    all_goals first | (exfalso; omega) | ((first | exact Fin.q Try.results86 (.cons (.tmp rfl) .nil) [] | refine Fin.q Try.results86 (.cons (.tmp rfl) .nil) [] (hr := (.t ?_)) | refine Fin.mkv (rs := _) Try.results86 (.cons (.tmp rfl) .nil) [] (by decide) rfl ?_ ?_ ?_ <;> repeat' (skip; first | exact .nil | refine .cons rfl ?_ ?_ | refine .cons ?_ ?_ | refine .row ?_ | refine .rset ?_ | refine .box ?_ | exact .gone | refine .aggL ?_ | refine .tupL ?_ | refine .old rfl ?_ | refine .new rfl rfl rfl ?_ | exact .nl | exact .optr rfl | exact .nptr rfl rfl rfl | refine .t ?_ | exact .any _ | rfl)))
theorem rtag_c (c : DConf) (hs : c.start.length ≤ 1152921504606846976) (l : List Int) (hU : okU l) (i : Int) : Cd Try.prog 91 [aCf c, .ln (l.map tU), i64 i] (i64 (tagM c l i)) [] := by
 have h1 : (l.map tU).length = l.length := List.length_map _
 have c1 := rfits_c c hs l
 unfold tagM nodeOk
 cases hf : fitM c l
 ·rw [hf] at c1
  rw [Bool.false_and, if_neg (by simp)]
  refine Cd.enter' Try.func91 rfl Try.ntmps91 rfl ?_
  repeat' (first | ((with_reducible refine kAL ?_); (first | (refine kL 1994 rfl ?_; first | refine uK (c1) ?_) | refine uA ?_ | refine uS 11 (fun hb => ?_) (fun hb => ?_) | refine uS 15 (fun hb => ?_) (fun hb => ?_))) | refine uC ?_ | refine kcp rfl (fun hc => ?_) (fun hc => ?_) | refine kcn rfl (fun hc => ?_) (fun hc => ?_) | refine kcb rfl (fun hc => ?_) (fun hc => ?_) | refine kcc rfl (fun hc => ?_) (fun hc => ?_) | fail)
  all_goals first | (exfalso; omega) | ((first | exact Fin.q Try.results91 (.cons (.tmp rfl) .nil) [] | refine Fin.q Try.results91 (.cons (.tmp rfl) .nil) [] (hr := (.t ?_)) | refine Fin.mkv (rs := _) Try.results91 (.cons (.tmp rfl) .nil) [] (by decide) rfl ?_ ?_ ?_ <;> repeat' (skip; first | exact .nil | refine .cons rfl ?_ ?_ | refine .cons ?_ ?_ | refine .row ?_ | refine .rset ?_ | refine .box ?_ | exact .gone | refine .aggL ?_ | refine .tupL ?_ | refine .old rfl ?_ | refine .new rfl rfl rfl ?_ | exact .nl | exact .optr rfl | exact .nptr rfl rfl rfl | refine .t ?_ | exact .any _ | rfl)))
 ·obtain ⟨T, X, F⟩ := fm_of hf
  have c2 := rnodesL_c c hs
  rw [hf] at c1
  rw [Bool.true_and]
  by_cases hi : 0 ≤ i ∧ i < nodesL c
  ·rw [decide_eq_true hi, if_pos rfl]
   obtain ⟨n, m, e1, e2, e3, e4, e5⟩ := F.next hi.1 hi.2
   have c3 := rnodeL_c c hs i
   rw [e1] at c3 ⊢
   rw [Int.toNat_natCast]
   obtain ⟨w1, w2, w3⟩ := u_at hU (n := n) (by omega)
   generalize l.getD n 0 = w at *
   generalize nodesL c = g6 at *
   clear F e1 e2
   refine Cd.enter' Try.func91 rfl Try.ntmps91 rfl ?_
   repeat' (first | ((with_reducible refine kAL ?_); (first | (refine kL 1994 rfl ?_; first | refine uK (c1) ?_) | (refine kL 1130 rfl ?_; first | refine uK (c2) ?_) | (refine kL 1194 rfl ?_; first | refine uK (c3) ?_) | refine uA ?_ | refine uS 11 (fun hb => ?_) (fun hb => ?_) | refine uS 15 (fun hb => ?_) (fun hb => ?_))) | refine uC ?_ | refine kcp rfl (fun hc => ?_) (fun hc => ?_) | refine kcn rfl (fun hc => ?_) (fun hc => ?_) | refine kcb rfl (fun hc => ?_) (fun hc => ?_) | refine kcc rfl (fun hc => ?_) (fun hc => ?_) | fail)
   all_goals first | (exfalso; omega) | ((first | exact Fin.q Try.results91 (.cons (.tmp rfl) .nil) [] | refine Fin.q Try.results91 (.cons (.tmp rfl) .nil) [] (hr := (.t ?_)) | refine Fin.mkv (rs := _) Try.results91 (.cons (.tmp rfl) .nil) [] (by decide) rfl ?_ ?_ ?_ <;> repeat' (skip; first | exact .nil | refine .cons rfl ?_ ?_ | refine .cons ?_ ?_ | refine .row ?_ | refine .rset ?_ | refine .box ?_ | exact .gone | refine .aggL ?_ | refine .tupL ?_ | refine .old rfl ?_ | refine .new rfl rfl rfl ?_ | exact .nl | exact .optr rfl | exact .nptr rfl rfl rfl | refine .t ?_ | exact .any _ | rfl)))
  ·rw [decide_eq_false hi, if_neg (by simp)]
   generalize nodesL c = g6 at *
   clear F
   by_cases h0 : 0 ≤ i
   all_goals
    refine Cd.enter' Try.func91 rfl Try.ntmps91 rfl ?_
    repeat' (first | ((with_reducible refine kAL ?_); (first | (refine kL 1994 rfl ?_; first | refine uK (c1) ?_) | (refine kL 1130 rfl ?_; first | refine uK (c2) ?_) | refine uA ?_ | refine uS 11 (fun hb => ?_) (fun hb => ?_) | refine uS 15 (fun hb => ?_) (fun hb => ?_))) | refine uC ?_ | refine kcp rfl (fun hc => ?_) (fun hc => ?_) | refine kcn rfl (fun hc => ?_) (fun hc => ?_) | refine kcb rfl (fun hc => ?_) (fun hc => ?_) | refine kcc rfl (fun hc => ?_) (fun hc => ?_) | fail)
    all_goals first | (exfalso; omega) | ((first | exact Fin.q Try.results91 (.cons (.tmp rfl) .nil) [] | refine Fin.q Try.results91 (.cons (.tmp rfl) .nil) [] (hr := (.t ?_)) | refine Fin.mkv (rs := _) Try.results91 (.cons (.tmp rfl) .nil) [] (by decide) rfl ?_ ?_ ?_ <;> repeat' (skip; first | exact .nil | refine .cons rfl ?_ ?_ | refine .cons ?_ ?_ | refine .row ?_ | refine .rset ?_ | refine .box ?_ | exact .gone | refine .aggL ?_ | refine .tupL ?_ | refine .old rfl ?_ | refine .new rfl rfl rfl ?_ | exact .nl | exact .optr rfl | exact .nptr rfl rfl rfl | refine .t ?_ | exact .any _ | rfl)))
theorem irec_c (c : DConf) (hs : c.start.length ≤ 1152921504606846976) (l : List Int) (i : Int) : Cd Try.prog 87 [aCf c, .ln (l.map tU), i64 i] (fU (recM c l i)) [] := by
 have h1 : (l.map tU).length = l.length := List.length_map _
 have c1 := ifits_c c hs l
 unfold recM nodeOk
 cases hf : fitM c l
 ·rw [hf] at c1
  rw [Bool.false_and, if_neg (by simp)]
  refine Cd.enter' Try.func87 rfl Try.ntmps87 rfl ?_
  repeat' (first | ((with_reducible refine kAL ?_); (first | (refine kL 1 rfl ?_; first | ((first | refine A_as (d := 6) rfl rfl rfl rfl ?_ | refine A_move (d := 6) rfl rfl _ (.inr rfl) (y := .sl _ _ _) rfl ?_ | refine A_move (d := 6) rfl rfl _ (.inr rfl) (y := .nl) rfl ?_ | refine A_move (d := 6) rfl rfl _ (.inr rfl) (y := .ptr _ _) rfl ?_ | refine A_move (d := 6) rfl rfl _ (.inr rfl) (y := .ln _) rfl ?_ | refine A_move (d := 6) rfl rfl _ (.inr rfl) (y := .lp _) rfl ?_ | refine A_move (d := 6) rfl rfl _ (.inr rfl) (y := .fn _ _ _) rfl ?_ | refine A_move (d := 6) rfl rfl _ (.inr rfl) (y := .sub _ _ _ _) rfl ?_ | refine A_move (d := 6) rfl rfl _ (.inr rfl) (y := .rp _ _ _ _) rfl ?_ | refine A_move (d := 6) rfl rfl _ (.inr rfl) (y := .agg _) rfl ?_ | refine A_move (d := 6) rfl rfl _ (.inr rfl) (y := .tup _) rfl ?_); (try refine uz 6 ?_))) | (refine kL 1930 rfl ?_; first | refine uK (c1) ?_) | refine uA ?_ | refine uS 11 (fun hb => ?_) (fun hb => ?_) | refine uS 15 (fun hb => ?_) (fun hb => ?_))) | refine uR ?_ | refine uC ?_ | refine kcp rfl (fun hc => ?_) (fun hc => ?_) | refine kcn rfl (fun hc => ?_) (fun hc => ?_) | refine kcb rfl (fun hc => ?_) (fun hc => ?_) | refine kcc rfl (fun hc => ?_) (fun hc => ?_) | refine AW.drawU (id := 3) mixed 6 qR ?_ | fail)
  all_goals first | (exfalso; omega) | ((first | exact Fin.q Try.results87 (.cons (.tmp rfl) .nil) [] | refine Fin.q Try.results87 (.cons (.tmp rfl) .nil) [] (hr := (.t ?_)) | refine Fin.mkv (rs := _) Try.results87 (.cons (.tmp rfl) .nil) [] (by decide) rfl ?_ ?_ ?_ <;> repeat' (skip; first | exact .nil | refine .cons rfl ?_ ?_ | refine .cons ?_ ?_ | refine .row ?_ | refine .rset ?_ | refine .box ?_ | exact .gone | refine .aggL ?_ | refine .tupL ?_ | refine .old rfl ?_ | refine .new rfl rfl rfl ?_ | exact .nl | exact .optr rfl | exact .nptr rfl rfl rfl | refine .t ?_ | exact .any _ | rfl)))
 ·obtain ⟨T, X, F⟩ := fm_of hf
  have c2 := nodesL_c c hs
  rw [hf] at c1
  rw [Bool.true_and]
  by_cases hi : 0 ≤ i ∧ i < nodesL c
  ·rw [decide_eq_true hi, if_pos rfl]
   obtain ⟨n, m, e1, e2, e3, e4, e5⟩ := F.next hi.1 hi.2
   have hn := F.n
   have htop := F.top
   have c3 := nodeL_c c hs i
   have c4 := nodeL_c c hs (i + 1)
   have c5 := cloneU_c (List.take (m - Int.toNat ((n : Int) + 1)) (List.drop (Int.toNat ((n : Int) + 1)) l)) (by rw [List.length_take, List.length_drop]; omega)
   have eR : (l.drop ((nodeL c i).toNat + 1)).take (sizeC c).toNat = List.take (m - Int.toNat ((n : Int) + 1)) (List.drop (Int.toNat ((n : Int) + 1)) l) := by
    rw [e1, Int.toNat_natCast, show Int.toNat ((n : Int) + 1) = n + 1 by omega, show m - (n + 1) = (sizeC c).toNat by omega]
   rw [eR]
   rw [e1] at c3
   rw [e2] at c4
   generalize nodesL c = g6 at *
   clear F e1 e2 eR
   refine Cd.enter' Try.func87 rfl Try.ntmps87 rfl ?_
   repeat' (first | ((with_reducible refine kAL ?_); (first | (refine kL 1930 rfl ?_; first | refine uK (c1) ?_) | (refine kL 1098 rfl ?_; first | refine uK (c2) ?_) | refine uA ?_ | refine uS 11 (fun hb => ?_) (fun hb => ?_) | refine uS 15 (fun hb => ?_) (fun hb => ?_))) | ((with_reducible refine kRG ?_); (first | (refine kR 1162 rfl ?_; first | (first | refine uQ (c3) 0 ?_ | refine uQ (c3) 1 ?_ | refine uQ (c3) 2 ?_ | refine uQ (c3) 3 ?_ | refine uQ (c3) 4 ?_ | refine uQ (c3) 5 ?_ | refine uQ (c3) 6 ?_ | refine uQ (c3) 7 ?_ | refine uQ (c3) 8 ?_ | refine uQ (c3) 9 ?_ | refine uQ (c3) 10 ?_ | refine uQ (c3) 11 ?_ | refine uQ (c3) 12 ?_ | refine uQ (c3) 13 ?_) | (first | refine uQ (c4) 0 ?_ | refine uQ (c4) 1 ?_ | refine uQ (c4) 2 ?_ | refine uQ (c4) 3 ?_ | refine uQ (c4) 4 ?_ | refine uQ (c4) 5 ?_ | refine uQ (c4) 6 ?_ | refine uQ (c4) 7 ?_ | refine uQ (c4) 8 ?_ | refine uQ (c4) 9 ?_ | refine uQ (c4) 10 ?_ | refine uQ (c4) 11 ?_ | refine uQ (c4) 12 ?_ | refine uQ (c4) 13 ?_)) | (refine kR 2634 rfl ?_; first | (first | refine uQ (c5) 0 ?_ | refine uQ (c5) 1 ?_ | refine uQ (c5) 2 ?_ | refine uQ (c5) 3 ?_ | refine uQ (c5) 4 ?_ | refine uQ (c5) 5 ?_ | refine uQ (c5) 6 ?_ | refine uQ (c5) 7 ?_ | refine uQ (c5) 8 ?_ | refine uQ (c5) 9 ?_ | refine uQ (c5) 10 ?_ | refine uQ (c5) 11 ?_ | refine uQ (c5) 12 ?_ | refine uQ (c5) 13 ?_)) | refine uR ?_)) | refine uC ?_ | refine kcp rfl (fun hc => ?_) (fun hc => ?_) | refine kcn rfl (fun hc => ?_) (fun hc => ?_) | refine kcb rfl (fun hc => ?_) (fun hc => ?_) | refine kcc rfl (fun hc => ?_) (fun hc => ?_) | refine AW.drawU (id := 3) mixed 0 qR ?_ | fail)
   all_goals first | (exfalso; omega) | ((first | exact Fin.q Try.results87 (.cons (.tmp rfl) .nil) [] | refine Fin.q Try.results87 (.cons (.tmp rfl) .nil) [] (hr := (.t ?_)) | refine Fin.mkv (rs := _) Try.results87 (.cons (.tmp rfl) .nil) [] (by decide) rfl ?_ ?_ ?_ <;> repeat' (skip; first | exact .nil | refine .cons rfl ?_ ?_ | refine .cons ?_ ?_ | refine .row ?_ | refine .rset ?_ | refine .box ?_ | exact .gone | refine .aggL ?_ | refine .tupL ?_ | refine .old rfl ?_ | refine .new rfl rfl rfl ?_ | exact .nl | exact .optr rfl | exact .nptr rfl rfl rfl | refine .t ?_ | exact .any _ | rfl)))
  ·rw [decide_eq_false hi, if_neg (by simp)]
   generalize nodesL c = g6 at *
   clear F
   by_cases h0 : 0 ≤ i
   all_goals
    refine Cd.enter' Try.func87 rfl Try.ntmps87 rfl ?_
    repeat' (first | ((with_reducible refine kAL ?_); (first | (refine kL 1 rfl ?_; first | ((first | refine A_as (d := 6) rfl rfl rfl rfl ?_ | refine A_move (d := 6) rfl rfl _ (.inr rfl) (y := .sl _ _ _) rfl ?_ | refine A_move (d := 6) rfl rfl _ (.inr rfl) (y := .nl) rfl ?_ | refine A_move (d := 6) rfl rfl _ (.inr rfl) (y := .ptr _ _) rfl ?_ | refine A_move (d := 6) rfl rfl _ (.inr rfl) (y := .ln _) rfl ?_ | refine A_move (d := 6) rfl rfl _ (.inr rfl) (y := .lp _) rfl ?_ | refine A_move (d := 6) rfl rfl _ (.inr rfl) (y := .fn _ _ _) rfl ?_ | refine A_move (d := 6) rfl rfl _ (.inr rfl) (y := .sub _ _ _ _) rfl ?_ | refine A_move (d := 6) rfl rfl _ (.inr rfl) (y := .rp _ _ _ _) rfl ?_ | refine A_move (d := 6) rfl rfl _ (.inr rfl) (y := .agg _) rfl ?_ | refine A_move (d := 6) rfl rfl _ (.inr rfl) (y := .tup _) rfl ?_); (try refine uz 6 ?_))) | (refine kL 1930 rfl ?_; first | refine uK (c1) ?_) | (refine kL 1098 rfl ?_; first | refine uK (c2) ?_) | refine uA ?_ | refine uS 11 (fun hb => ?_) (fun hb => ?_) | refine uS 15 (fun hb => ?_) (fun hb => ?_))) | refine uR ?_ | refine uC ?_ | refine kcp rfl (fun hc => ?_) (fun hc => ?_) | refine kcn rfl (fun hc => ?_) (fun hc => ?_) | refine kcb rfl (fun hc => ?_) (fun hc => ?_) | refine kcc rfl (fun hc => ?_) (fun hc => ?_) | refine AW.drawU (id := 3) mixed 6 qR ?_ | fail)
    all_goals first | (exfalso; omega) | ((first | exact Fin.q Try.results87 (.cons (.tmp rfl) .nil) [] | refine Fin.q Try.results87 (.cons (.tmp rfl) .nil) [] (hr := (.t ?_)) | refine Fin.mkv (rs := _) Try.results87 (.cons (.tmp rfl) .nil) [] (by decide) rfl ?_ ?_ ?_ <;> repeat' (skip; first | exact .nil | refine .cons rfl ?_ ?_ | refine .cons ?_ ?_ | refine .row ?_ | refine .rset ?_ | refine .box ?_ | exact .gone | refine .aggL ?_ | refine .tupL ?_ | refine .old rfl ?_ | refine .new rfl rfl rfl ?_ | exact .nl | exact .optr rfl | exact .nptr rfl rfl rfl | refine .t ?_ | exact .any _ | rfl)))
theorem rrec_c (c : DConf) (hs : c.start.length ≤ 1152921504606846976) (l : List Int) (i : Int) : Cd Try.prog 92 [aCf c, .ln (l.map tU), i64 i] (fU (recM c l i)) [] := by
 have h1 : (l.map tU).length = l.length := List.length_map _
 have c1 := rfits_c c hs l
 unfold recM nodeOk
 cases hf : fitM c l
 ·rw [hf] at c1
  rw [Bool.false_and, if_neg (by simp)]
  refine Cd.enter' Try.func92 rfl Try.ntmps92 rfl ?_
  repeat' (first | ((with_reducible refine kAL ?_); (first | (refine kL 1 rfl ?_; first | ((first | refine A_as (d := 6) rfl rfl rfl rfl ?_ | refine A_move (d := 6) rfl rfl _ (.inr rfl) (y := .sl _ _ _) rfl ?_ | refine A_move (d := 6) rfl rfl _ (.inr rfl) (y := .nl) rfl ?_ | refine A_move (d := 6) rfl rfl _ (.inr rfl) (y := .ptr _ _) rfl ?_ | refine A_move (d := 6) rfl rfl _ (.inr rfl) (y := .ln _) rfl ?_ | refine A_move (d := 6) rfl rfl _ (.inr rfl) (y := .lp _) rfl ?_ | refine A_move (d := 6) rfl rfl _ (.inr rfl) (y := .fn _ _ _) rfl ?_ | refine A_move (d := 6) rfl rfl _ (.inr rfl) (y := .sub _ _ _ _) rfl ?_ | refine A_move (d := 6) rfl rfl _ (.inr rfl) (y := .rp _ _ _ _) rfl ?_ | refine A_move (d := 6) rfl rfl _ (.inr rfl) (y := .agg _) rfl ?_ | refine A_move (d := 6) rfl rfl _ (.inr rfl) (y := .tup _) rfl ?_); (try refine uz 6 ?_))) | (refine kL 1994 rfl ?_; first | refine uK (c1) ?_) | (refine kL 815 rfl ?_; first | refine A_lit rfl rfl 25 1 _ rfl ud25 inf69 (.cons rfl .nil) (els := [[_]]) rfl (by first | exact qN) rfl (Nat.ne_of_beq_eq_false rfl) (Nat.le_of_ble_eq_true rfl) (Nat.le_of_ble_eq_true rfl) (.push qL qN) ?_) | (refine kL 12 rfl ?_; first | refine A_append_nlsub rfl rfl _ _ 25 rfl ud25 inf69 rfl rfl rfl rfl (by (try simp only [List.length_map, List.length_append, List.length_cons, List.length_nil]); omega) qB qB List.map_drop.symm (.push qL qN) ?_) | refine uA ?_ | refine uS 13 (fun hb => ?_) (fun hb => ?_) | refine uS 17 (fun hb => ?_) (fun hb => ?_))) | refine uC ?_ | refine kcp rfl (fun hc => ?_) (fun hc => ?_) | refine kcn rfl (fun hc => ?_) (fun hc => ?_) | refine kcb rfl (fun hc => ?_) (fun hc => ?_) | refine kcc rfl (fun hc => ?_) (fun hc => ?_) | fail)
  all_goals first | (exfalso; omega) | ((first | exact Fin.q Try.results92 (.cons (.tmp rfl) .nil) [] | refine Fin.q Try.results92 (.cons (.tmp rfl) .nil) [] (hr := (.t ?_)) | refine Fin.mkv (rs := _) Try.results92 (.cons (.tmp rfl) .nil) [] (by decide) rfl ?_ ?_ ?_ <;> repeat' (skip; first | exact .nil | refine .cons rfl ?_ ?_ | refine .cons ?_ ?_ | refine .row ?_ | refine .rset ?_ | refine .box ?_ | exact .gone | refine .aggL ?_ | refine .tupL ?_ | refine .old rfl ?_ | refine .new rfl rfl rfl ?_ | exact .nl | exact .optr rfl | exact .nptr rfl rfl rfl | refine .t ?_ | exact .any _ | rfl)))
 ·obtain ⟨T, X, F⟩ := fm_of hf
  have c2 := rnodesL_c c hs
  rw [hf] at c1
  rw [Bool.true_and]
  by_cases hi : 0 ≤ i ∧ i < nodesL c
  ·rw [decide_eq_true hi, if_pos rfl]
   obtain ⟨n, m, e1, e2, e3, e4, e5⟩ := F.next hi.1 hi.2
   have hn := F.n
   have htop := F.top
   have c3 := rnodeL_c c hs i
   have c4 := rnodeL_c c hs (i + 1)
   have eR : (l.drop ((nodeL c i).toNat + 1)).take (sizeC c).toNat = (l.drop (n + 1)).take (m - (n + 1)) := by
    rw [e1, Int.toNat_natCast, show m - (n + 1) = (sizeC c).toNat by omega]
   rw [eR]
   rw [e1] at c3
   rw [e2] at c4
   generalize nodesL c = g6 at *
   clear F e1 e2 eR
   have hlen : ((l.drop (n + 1)).take (m - (n + 1))).length = m - (n + 1) := by rw [List.length_take, List.length_drop]; omega
   have h0 : Cd Try.prog 92 [aCf c, .ln (l.map tU), i64 i] (.sl 0 0 ((l.drop (n + 1)).take (m - (n + 1))).length) [.row 0 69 1 (((l.drop (n + 1)).take (m - (n + 1))).map tU)] := by
    rw [hlen]
    refine Cd.enter' Try.func92 rfl Try.ntmps92 rfl ?_
    repeat' (first | ((with_reducible refine kAL ?_); (first | (refine kL 1994 rfl ?_; first | refine uK (c1) ?_) | (refine kL 1130 rfl ?_; first | refine uK (c2) ?_) | (refine kL 1194 rfl ?_; first | refine uK (c3) ?_ | refine uK (c4) ?_) | (refine kL 815 rfl ?_; first | refine A_lit rfl rfl 25 1 _ rfl ud25 inf69 (.cons rfl .nil) (els := [[_]]) rfl (by first | exact qN) rfl (Nat.ne_of_beq_eq_false rfl) (Nat.le_of_ble_eq_true rfl) (Nat.le_of_ble_eq_true rfl) (.push qL qN) ?_) | (refine kL 12 rfl ?_; first | refine A_append_nlsub rfl rfl _ _ 25 rfl ud25 inf69 rfl rfl rfl rfl (by (try simp only [List.length_map, List.length_append, List.length_cons, List.length_nil]); omega) qB qB List.map_drop.symm (.push qL qN) ?_) | refine uA ?_ | refine uS 13 (fun hb => ?_) (fun hb => ?_) | refine uS 17 (fun hb => ?_) (fun hb => ?_))) | refine uC ?_ | refine kcp rfl (fun hc => ?_) (fun hc => ?_) | refine kcn rfl (fun hc => ?_) (fun hc => ?_) | refine kcb rfl (fun hc => ?_) (fun hc => ?_) | refine kcc rfl (fun hc => ?_) (fun hc => ?_) | fail)
    all_goals first | (exfalso; omega) | skip
    refine AW.wk (Wk.own 7 rfl 69 1 (.push rfl rfl)) ?_
    refine AW.loopP (fun (k : Nat) => n + 1 + k ≤ m) (fun (k : Nat) => (pu (pu (pu (pu (pu (fun _ => .any) 1 (.ln (l.map tU))) 2 (i64 i)) 3 (.ptr 0 0)) 7 (.sl 1 k k)) 8 (i64 ((n : Int) + 1 + (k : Int))))) (fun (k : Nat) => [.box 24 [i64 c.kind, i64 c.threads, i64 c.chans, i64 c.cap, i64 c.nodes, i64 c.retire, i64 c.patience, i64 c.tags, i64 c.seqs, i64 c.gens, .ln (c.start.map tI)], .row k 69 1 (((l.drop (n + 1)).take k).map tU)]) (fun (k : Nat) => m - (n + 1) - k) (0) ?_ ?_ ?_
    ·omega
    ·rw [show ((n : Int) + 1 + ((0 : Nat) : Int)) = (n : Int) + 1 by omega]
     exact Wk.cq 2
    ·intro k hk
     by_cases hk2 : n + 1 + k < m
     ·obtain ⟨w, hw⟩ : ∃ w, l[n + 1 + k]? = some w := ⟨_, List.getElem?_eq_getElem (by omega)⟩
      have hx : l[Int.toNat ((n : Int) + 1 + (k : Int))]? = some w := by rw [show Int.toNat ((n : Int) + 1 + (k : Int)) = n + 1 + k by omega]; exact hw
      have hs2 : (l.drop (n + 1)).take (k + 1) = (l.drop (n + 1)).take k ++ [w] := by rw [List.take_add_one, List.getElem?_drop, hw]; rfl
      have hM : ((l.drop (n + 1)).take k).length = k := by rw [List.length_take, List.length_drop]; omega
      generalize (l.drop (n + 1)).take k = M at *
      have hM2 : (M.map tU).length = k := by rw [List.length_map, hM]
      clear hw
      repeat' (first | ((with_reducible refine kAL ?_); (first | (refine kL 1194 rfl ?_; first | refine uK (c4) ?_) | (refine kL 815 rfl ?_; first | refine A_lit rfl rfl 25 1 _ rfl ud25 inf69 (.cons rfl .nil) (els := [[_]]) rfl (by first | exact (rfl : _ = List.map tU [_]) | exact qN) rfl (Nat.ne_of_beq_eq_false rfl) (Nat.le_of_ble_eq_true rfl) (Nat.le_of_ble_eq_true rfl) (.push qL qN) ?_) | (refine kL 12 rfl ?_; first | refine A_append_nlsub rfl rfl _ _ 25 rfl ud25 inf69 rfl rfl rfl rfl (by (try simp only [List.length_map, List.length_append, List.length_cons, List.length_nil]); omega) qB qB List.map_drop.symm (.push qL qN) ?_) | refine uA ?_ | refine uS 13 (fun hb => ?_) (fun hb => ?_) | refine uS 17 (fun hb => ?_) (fun hb => ?_))) | refine uC ?_ | refine kcp rfl (fun hc => ?_) (fun hc => ?_) | refine kcn rfl (fun hc => ?_) (fun hc => ?_) | refine kcb rfl (fun hc => ?_) (fun hc => ?_) | refine kcc rfl (fun hc => ?_) (fun hc => ?_) | fail)
      all_goals first | (exfalso; omega) | skip
      refine ⟨k + 1, by omega, by omega, ?_⟩
      rw [hs2, show ((n : Int) + 1 + ((k + 1 : Nat) : Int)) = (n : Int) + 1 + (k : Int) + 1 by omega]
      exact Wk.cq 2
     ·have e : k = m - (n + 1) := by omega
      rw [e]
      repeat' (first | ((with_reducible refine kAL ?_); (first | (refine kL 1194 rfl ?_; first | refine uK (c4) ?_) | (refine kL 815 rfl ?_; first | refine A_lit rfl rfl 25 1 _ rfl ud25 inf69 (.cons rfl .nil) (els := [[_]]) rfl (by first | exact qN) rfl (Nat.ne_of_beq_eq_false rfl) (Nat.le_of_ble_eq_true rfl) (Nat.le_of_ble_eq_true rfl) (.push qL qN) ?_) | (refine kL 12 rfl ?_; first | refine A_append_nlsub rfl rfl _ _ 25 rfl ud25 inf69 rfl rfl rfl rfl (by (try simp only [List.length_map, List.length_append, List.length_cons, List.length_nil]); omega) qB qB List.map_drop.symm (.push qL qN) ?_) | refine uA ?_ | refine uS 13 (fun hb => ?_) (fun hb => ?_) | refine uS 17 (fun hb => ?_) (fun hb => ?_))) | refine uC ?_ | refine kcp rfl (fun hc => ?_) (fun hc => ?_) | refine kcn rfl (fun hc => ?_) (fun hc => ?_) | refine kcb rfl (fun hc => ?_) (fun hc => ?_) | refine kcc rfl (fun hc => ?_) (fun hc => ?_) | fail)
      all_goals first | (exfalso; omega) | ((first | exact Fin.q Try.results92 (.cons (.tmp rfl) .nil) [1] | refine Fin.q Try.results92 (.cons (.tmp rfl) .nil) [1] (hr := (.t ?_)) | refine Fin.mkv (rs := _) Try.results92 (.cons (.tmp rfl) .nil) [1] (by decide) rfl ?_ ?_ ?_ <;> repeat' (skip; first | exact .nil | refine .cons rfl ?_ ?_ | refine .cons ?_ ?_ | refine .row ?_ | refine .rset ?_ | refine .box ?_ | exact .gone | refine .aggL ?_ | refine .tupL ?_ | refine .old rfl ?_ | refine .new rfl rfl rfl ?_ | exact .nl | exact .optr rfl | exact .nptr rfl rfl rfl | refine .t ?_ | exact .any _ | rfl)))
   generalize (l.drop (n + 1)).take (m - (n + 1)) = M at *
   have h0' := Cd.frz1 h0 0 rfl (by repeat' (first | exact FzL.nil | apply FzL.cons | exact FzR.nlt | exact FzR.all (by first | rfl | (simp <;> fail) | (simp; omega)) | exact FzR.sl (by first | exact Nat.le_refl _ | (simp <;> fail) | (simp; omega)) | apply FzR.aggL | exact FzR.same _)) rfl; exact Cd.drop h0' rfl
  ·rw [decide_eq_false hi, if_neg (by simp)]
   generalize nodesL c = g6 at *
   clear F
   by_cases h0 : 0 ≤ i
   all_goals
    refine Cd.enter' Try.func92 rfl Try.ntmps92 rfl ?_
    repeat' (first | ((with_reducible refine kAL ?_); (first | (refine kL 1 rfl ?_; first | ((first | refine A_as (d := 6) rfl rfl rfl rfl ?_ | refine A_move (d := 6) rfl rfl _ (.inr rfl) (y := .sl _ _ _) rfl ?_ | refine A_move (d := 6) rfl rfl _ (.inr rfl) (y := .nl) rfl ?_ | refine A_move (d := 6) rfl rfl _ (.inr rfl) (y := .ptr _ _) rfl ?_ | refine A_move (d := 6) rfl rfl _ (.inr rfl) (y := .ln _) rfl ?_ | refine A_move (d := 6) rfl rfl _ (.inr rfl) (y := .lp _) rfl ?_ | refine A_move (d := 6) rfl rfl _ (.inr rfl) (y := .fn _ _ _) rfl ?_ | refine A_move (d := 6) rfl rfl _ (.inr rfl) (y := .sub _ _ _ _) rfl ?_ | refine A_move (d := 6) rfl rfl _ (.inr rfl) (y := .rp _ _ _ _) rfl ?_ | refine A_move (d := 6) rfl rfl _ (.inr rfl) (y := .agg _) rfl ?_ | refine A_move (d := 6) rfl rfl _ (.inr rfl) (y := .tup _) rfl ?_); (try refine uz 6 ?_))) | (refine kL 1994 rfl ?_; first | refine uK (c1) ?_) | (refine kL 1130 rfl ?_; first | refine uK (c2) ?_) | (refine kL 815 rfl ?_; first | refine A_lit rfl rfl 25 1 _ rfl ud25 inf69 (.cons rfl .nil) (els := [[_]]) rfl (by first | exact qN) rfl (Nat.ne_of_beq_eq_false rfl) (Nat.le_of_ble_eq_true rfl) (Nat.le_of_ble_eq_true rfl) (.push qL qN) ?_) | (refine kL 12 rfl ?_; first | refine A_append_nlsub rfl rfl _ _ 25 rfl ud25 inf69 rfl rfl rfl rfl (by (try simp only [List.length_map, List.length_append, List.length_cons, List.length_nil]); omega) qB qB List.map_drop.symm (.push qL qN) ?_) | refine uA ?_ | refine uS 13 (fun hb => ?_) (fun hb => ?_) | refine uS 17 (fun hb => ?_) (fun hb => ?_))) | refine uC ?_ | refine kcp rfl (fun hc => ?_) (fun hc => ?_) | refine kcn rfl (fun hc => ?_) (fun hc => ?_) | refine kcb rfl (fun hc => ?_) (fun hc => ?_) | refine kcc rfl (fun hc => ?_) (fun hc => ?_) | fail)
    all_goals first | (exfalso; omega) | ((first | exact Fin.q Try.results92 (.cons (.tmp rfl) .nil) [] | refine Fin.q Try.results92 (.cons (.tmp rfl) .nil) [] (hr := (.t ?_)) | refine Fin.mkv (rs := _) Try.results92 (.cons (.tmp rfl) .nil) [] (by decide) rfl ?_ ?_ ?_ <;> repeat' (skip; first | exact .nil | refine .cons rfl ?_ ?_ | refine .cons ?_ ?_ | refine .row ?_ | refine .rset ?_ | refine .box ?_ | exact .gone | refine .aggL ?_ | refine .tupL ?_ | refine .old rfl ?_ | refine .new rfl rfl rfl ?_ | exact .nl | exact .optr rfl | exact .nptr rfl rfl rfl | refine .t ?_ | exact .any _ | rfl)))
theorem iroot_c (c : DConf) (hs : c.start.length ≤ 1152921504606846976) (l : List Int) (hU : okU l) : Cd Try.prog 52 [aCf c, .ln (l.map tU)] (.tup [.agg [i64 (rootI c l), i64 (rootT c l)], fU (rootR c l), bo (rOkM c l)]) [] := by
 have h1 : (l.map tU).length = l.length := List.length_map _
 have c1 := ifits_c c hs l
 unfold rootI rootT rootR
 cases hf : fitM c l
 ·rw [fm_no hf, if_neg (by simp), if_neg (by simp), if_neg (by simp)]
  rw [hf] at c1
  refine Cd.enter' Try.func52 rfl Try.ntmps52 rfl ?_
  repeat' (first | ((with_reducible refine kAL ?_); (first | (refine kL 1 rfl ?_; first | ((first | refine A_as (d := 5) rfl rfl rfl rfl ?_ | refine A_move (d := 5) rfl rfl _ (.inr rfl) (y := .sl _ _ _) rfl ?_ | refine A_move (d := 5) rfl rfl _ (.inr rfl) (y := .nl) rfl ?_ | refine A_move (d := 5) rfl rfl _ (.inr rfl) (y := .ptr _ _) rfl ?_ | refine A_move (d := 5) rfl rfl _ (.inr rfl) (y := .ln _) rfl ?_ | refine A_move (d := 5) rfl rfl _ (.inr rfl) (y := .lp _) rfl ?_ | refine A_move (d := 5) rfl rfl _ (.inr rfl) (y := .fn _ _ _) rfl ?_ | refine A_move (d := 5) rfl rfl _ (.inr rfl) (y := .sub _ _ _ _) rfl ?_ | refine A_move (d := 5) rfl rfl _ (.inr rfl) (y := .rp _ _ _ _) rfl ?_ | refine A_move (d := 5) rfl rfl _ (.inr rfl) (y := .agg _) rfl ?_ | refine A_move (d := 5) rfl rfl _ (.inr rfl) (y := .tup _) rfl ?_); (try refine uz 5 ?_))) | (refine kL 1930 rfl ?_; first | refine uK (c1) ?_) | refine uA ?_)) | refine uR ?_ | refine uC ?_ | refine kcp rfl (fun hc => ?_) (fun hc => ?_) | refine kcn rfl (fun hc => ?_) (fun hc => ?_) | refine kcb rfl (fun hc => ?_) (fun hc => ?_) | refine kcc rfl (fun hc => ?_) (fun hc => ?_) | refine AW.drawU (id := 4) mixed 4 qR ?_ | refine AW.drawU (id := 6) mixed 2 qR ?_ | fail)
  all_goals first | (exfalso; omega) | ((first | exact Fin.q Try.results52 (.cons (.agg rfl rfl ud55 rfl inf55 (us := [_, _]) rfl rfl) (.cons (.tmp rfl) (.cons (.tmp rfl) .nil))) [] | refine Fin.q Try.results52 (.cons (.agg rfl rfl ud55 rfl inf55 (us := [_, _]) rfl rfl) (.cons (.tmp rfl) (.cons (.tmp rfl) .nil))) [] (hr := (.tupL (.cons (.t ?_) (.cons (.t ?_) (.cons (.t ?_) .nil))))) | refine Fin.mkv (rs := _) Try.results52 (.cons (.agg rfl rfl ud55 rfl inf55 (us := [_, _]) rfl rfl) (.cons (.tmp rfl) (.cons (.tmp rfl) .nil))) [] (by decide) rfl ?_ ?_ ?_ <;> repeat' (skip; first | exact .nil | refine .cons rfl ?_ ?_ | refine .cons ?_ ?_ | refine .row ?_ | refine .rset ?_ | refine .box ?_ | exact .gone | refine .aggL ?_ | refine .tupL ?_ | refine .old rfl ?_ | refine .new rfl rfl rfl ?_ | exact .nl | exact .optr rfl | exact .nptr rfl rfl rfl | refine .t ?_ | exact .any _ | rfl)))
 ·obtain ⟨T, X, F⟩ := fm_of hf
  rw [hf] at c1
  have hlen := F.len
  obtain ⟨w1, w2, w3⟩ := u_at hU (n := 0) (by omega)
  have c2 := fread_c (l.getD 0 0) ⟨w2, w3⟩
  have c3 := nodesL_c c hs
  have c4 := itag_c c hs l hU (refI (l.getD 0 0))
  have c5 := irec_c c hs l (refI (l.getD 0 0))
  have hr : rOkM c l = (refOk (l.getD 0 0) && decide (refI (l.getD 0 0) < nodesL c) && decide (tagM c l (refI (l.getD 0 0)) = refT (l.getD 0 0))) := by unfold rOkM; rw [hf, Bool.true_and]
  generalize tagM c l (refI (l.getD 0 0)) = tg at *
  generalize recM c l (refI (l.getD 0 0)) = rc at *
  generalize refI (l.getD 0 0) = ri at *
  generalize refT (l.getD 0 0) = rt at *
  generalize refOk (l.getD 0 0) = ro at *
  generalize l.getD 0 0 = w at *
  generalize nodesL c = g6 at *
  generalize rOkM c l = ok at *
  clear F hf
  cases ro
  ·rw [Bool.false_and, Bool.false_and] at hr
   subst hr
   simp only [Bool.false_eq_true, if_false]
   refine Cd.enter' Try.func52 rfl Try.ntmps52 rfl ?_
   repeat' (first | ((with_reducible refine kAL ?_); (first | (refine kL 1 rfl ?_; first | ((first | refine A_as (d := 5) rfl rfl rfl rfl ?_ | refine A_move (d := 5) rfl rfl _ (.inr rfl) (y := .sl _ _ _) rfl ?_ | refine A_move (d := 5) rfl rfl _ (.inr rfl) (y := .nl) rfl ?_ | refine A_move (d := 5) rfl rfl _ (.inr rfl) (y := .ptr _ _) rfl ?_ | refine A_move (d := 5) rfl rfl _ (.inr rfl) (y := .ln _) rfl ?_ | refine A_move (d := 5) rfl rfl _ (.inr rfl) (y := .lp _) rfl ?_ | refine A_move (d := 5) rfl rfl _ (.inr rfl) (y := .fn _ _ _) rfl ?_ | refine A_move (d := 5) rfl rfl _ (.inr rfl) (y := .sub _ _ _ _) rfl ?_ | refine A_move (d := 5) rfl rfl _ (.inr rfl) (y := .rp _ _ _ _) rfl ?_ | refine A_move (d := 5) rfl rfl _ (.inr rfl) (y := .agg _) rfl ?_ | refine A_move (d := 5) rfl rfl _ (.inr rfl) (y := .tup _) rfl ?_); (try refine uz 5 ?_))) | (refine kL 1930 rfl ?_; first | refine uK (c1) ?_) | (refine kL 1962 rfl ?_; first | refine uK (c2) ?_) | refine uA ?_)) | refine uR ?_ | refine uC ?_ | refine kcp rfl (fun hc => ?_) (fun hc => ?_) | refine kcn rfl (fun hc => ?_) (fun hc => ?_) | refine kcb rfl (fun hc => ?_) (fun hc => ?_) | refine kcc rfl (fun hc => ?_) (fun hc => ?_) | refine AW.drawU (id := 4) mixed 0 qR ?_ | refine AW.drawU (id := 6) mixed 0 qR ?_ | fail)
   all_goals first | (exfalso; omega) | ((first | exact Fin.q Try.results52 (.cons (.agg rfl rfl ud55 rfl inf55 (us := [_, _]) rfl rfl) (.cons (.tmp rfl) (.cons (.tmp rfl) .nil))) [] | refine Fin.q Try.results52 (.cons (.agg rfl rfl ud55 rfl inf55 (us := [_, _]) rfl rfl) (.cons (.tmp rfl) (.cons (.tmp rfl) .nil))) [] (hr := (.tupL (.cons (.t ?_) (.cons (.t ?_) (.cons (.t ?_) .nil))))) | refine Fin.mkv (rs := _) Try.results52 (.cons (.agg rfl rfl ud55 rfl inf55 (us := [_, _]) rfl rfl) (.cons (.tmp rfl) (.cons (.tmp rfl) .nil))) [] (by decide) rfl ?_ ?_ ?_ <;> repeat' (skip; first | exact .nil | refine .cons rfl ?_ ?_ | refine .cons ?_ ?_ | refine .row ?_ | refine .rset ?_ | refine .box ?_ | exact .gone | refine .aggL ?_ | refine .tupL ?_ | refine .old rfl ?_ | refine .new rfl rfl rfl ?_ | exact .nl | exact .optr rfl | exact .nptr rfl rfl rfl | refine .t ?_ | exact .any _ | rfl)))
  ·rw [Bool.true_and] at hr
   by_cases h2 : ri < g6
   ·by_cases h3 : tg = rt
    ·rw [decide_eq_true h2, decide_eq_true h3] at hr
     subst hr
     subst h3
     simp only [Bool.and_self, if_true]
     refine Cd.enter' Try.func52 rfl Try.ntmps52 rfl ?_
     repeat' (first | ((with_reducible refine kAL ?_); (first | (refine kL 1930 rfl ?_; first | refine uK (c1) ?_) | (refine kL 1962 rfl ?_; first | refine uK (c2) ?_) | refine uA ?_)) | ((with_reducible refine kRG ?_); (first | (refine kR 1098 rfl ?_; first | (first | refine uQ (c3) 0 ?_ | refine uQ (c3) 1 ?_ | refine uQ (c3) 2 ?_ | refine uQ (c3) 3 ?_ | refine uQ (c3) 4 ?_ | refine uQ (c3) 5 ?_ | refine uQ (c3) 6 ?_ | refine uQ (c3) 7 ?_ | refine uQ (c3) 8 ?_ | refine uQ (c3) 9 ?_ | refine uQ (c3) 10 ?_ | refine uQ (c3) 11 ?_ | refine uQ (c3) 12 ?_ | refine uQ (c3) 13 ?_)) | (refine kR 2762 rfl ?_; first | (first | refine uQ (c4) 0 ?_ | refine uQ (c4) 1 ?_ | refine uQ (c4) 2 ?_ | refine uQ (c4) 3 ?_ | refine uQ (c4) 4 ?_ | refine uQ (c4) 5 ?_ | refine uQ (c4) 6 ?_ | refine uQ (c4) 7 ?_ | refine uQ (c4) 8 ?_ | refine uQ (c4) 9 ?_ | refine uQ (c4) 10 ?_ | refine uQ (c4) 11 ?_ | refine uQ (c4) 12 ?_ | refine uQ (c4) 13 ?_)) | (refine kR 2794 rfl ?_; first | (first | refine uQ (c5) 0 ?_ | refine uQ (c5) 1 ?_ | refine uQ (c5) 2 ?_ | refine uQ (c5) 3 ?_ | refine uQ (c5) 4 ?_ | refine uQ (c5) 5 ?_ | refine uQ (c5) 6 ?_ | refine uQ (c5) 7 ?_ | refine uQ (c5) 8 ?_ | refine uQ (c5) 9 ?_ | refine uQ (c5) 10 ?_ | refine uQ (c5) 11 ?_ | refine uQ (c5) 12 ?_ | refine uQ (c5) 13 ?_)) | refine uR ?_)) | refine uC ?_ | refine kcp rfl (fun hc => ?_) (fun hc => ?_) | refine kcn rfl (fun hc => ?_) (fun hc => ?_) | refine kcb rfl (fun hc => ?_) (fun hc => ?_) | refine kcc rfl (fun hc => ?_) (fun hc => ?_) | refine AW.drawU (id := 4) mixed 0 qR ?_ | refine AW.drawU (id := 6) mixed 0 qR ?_ | fail)
     all_goals first | (exfalso; omega) | ((first | exact Fin.q Try.results52 (.cons (.agg rfl rfl ud55 rfl inf55 (us := [_, _]) rfl rfl) (.cons (.tmp rfl) (.cons (.tmp rfl) .nil))) [] | refine Fin.q Try.results52 (.cons (.agg rfl rfl ud55 rfl inf55 (us := [_, _]) rfl rfl) (.cons (.tmp rfl) (.cons (.tmp rfl) .nil))) [] (hr := (.tupL (.cons (.t ?_) (.cons (.t ?_) (.cons (.t ?_) .nil))))) | refine Fin.mkv (rs := _) Try.results52 (.cons (.agg rfl rfl ud55 rfl inf55 (us := [_, _]) rfl rfl) (.cons (.tmp rfl) (.cons (.tmp rfl) .nil))) [] (by decide) rfl ?_ ?_ ?_ <;> repeat' (skip; first | exact .nil | refine .cons rfl ?_ ?_ | refine .cons ?_ ?_ | refine .row ?_ | refine .rset ?_ | refine .box ?_ | exact .gone | refine .aggL ?_ | refine .tupL ?_ | refine .old rfl ?_ | refine .new rfl rfl rfl ?_ | exact .nl | exact .optr rfl | exact .nptr rfl rfl rfl | refine .t ?_ | exact .any _ | rfl)))
    ·rw [decide_eq_true h2, decide_eq_false h3] at hr
     subst hr
     simp only [Bool.and_false, Bool.false_eq_true, if_false]
     refine Cd.enter' Try.func52 rfl Try.ntmps52 rfl ?_
     repeat' (first | ((with_reducible refine kAL ?_); (first | (refine kL 1 rfl ?_; first | ((first | refine A_as (d := 5) rfl rfl rfl rfl ?_ | refine A_move (d := 5) rfl rfl _ (.inr rfl) (y := .sl _ _ _) rfl ?_ | refine A_move (d := 5) rfl rfl _ (.inr rfl) (y := .nl) rfl ?_ | refine A_move (d := 5) rfl rfl _ (.inr rfl) (y := .ptr _ _) rfl ?_ | refine A_move (d := 5) rfl rfl _ (.inr rfl) (y := .ln _) rfl ?_ | refine A_move (d := 5) rfl rfl _ (.inr rfl) (y := .lp _) rfl ?_ | refine A_move (d := 5) rfl rfl _ (.inr rfl) (y := .fn _ _ _) rfl ?_ | refine A_move (d := 5) rfl rfl _ (.inr rfl) (y := .sub _ _ _ _) rfl ?_ | refine A_move (d := 5) rfl rfl _ (.inr rfl) (y := .rp _ _ _ _) rfl ?_ | refine A_move (d := 5) rfl rfl _ (.inr rfl) (y := .agg _) rfl ?_ | refine A_move (d := 5) rfl rfl _ (.inr rfl) (y := .tup _) rfl ?_); (try refine uz 5 ?_))) | (refine kL 1930 rfl ?_; first | refine uK (c1) ?_) | (refine kL 1962 rfl ?_; first | refine uK (c2) ?_) | refine uA ?_)) | ((with_reducible refine kRG ?_); (first | (refine kR 1098 rfl ?_; first | (first | refine uQ (c3) 0 ?_ | refine uQ (c3) 1 ?_ | refine uQ (c3) 2 ?_ | refine uQ (c3) 3 ?_ | refine uQ (c3) 4 ?_ | refine uQ (c3) 5 ?_ | refine uQ (c3) 6 ?_ | refine uQ (c3) 7 ?_ | refine uQ (c3) 8 ?_ | refine uQ (c3) 9 ?_ | refine uQ (c3) 10 ?_ | refine uQ (c3) 11 ?_ | refine uQ (c3) 12 ?_ | refine uQ (c3) 13 ?_)) | (refine kR 2762 rfl ?_; first | (first | refine uQ (c4) 0 ?_ | refine uQ (c4) 1 ?_ | refine uQ (c4) 2 ?_ | refine uQ (c4) 3 ?_ | refine uQ (c4) 4 ?_ | refine uQ (c4) 5 ?_ | refine uQ (c4) 6 ?_ | refine uQ (c4) 7 ?_ | refine uQ (c4) 8 ?_ | refine uQ (c4) 9 ?_ | refine uQ (c4) 10 ?_ | refine uQ (c4) 11 ?_ | refine uQ (c4) 12 ?_ | refine uQ (c4) 13 ?_)) | refine uR ?_)) | refine uC ?_ | refine kcp rfl (fun hc => ?_) (fun hc => ?_) | refine kcn rfl (fun hc => ?_) (fun hc => ?_) | refine kcb rfl (fun hc => ?_) (fun hc => ?_) | refine kcc rfl (fun hc => ?_) (fun hc => ?_) | refine AW.drawU (id := 4) mixed 0 qR ?_ | refine AW.drawU (id := 6) mixed 0 qR ?_ | fail)
     all_goals first | (exfalso; omega) | ((first | exact Fin.q Try.results52 (.cons (.agg rfl rfl ud55 rfl inf55 (us := [_, _]) rfl rfl) (.cons (.tmp rfl) (.cons (.tmp rfl) .nil))) [] | refine Fin.q Try.results52 (.cons (.agg rfl rfl ud55 rfl inf55 (us := [_, _]) rfl rfl) (.cons (.tmp rfl) (.cons (.tmp rfl) .nil))) [] (hr := (.tupL (.cons (.t ?_) (.cons (.t ?_) (.cons (.t ?_) .nil))))) | refine Fin.mkv (rs := _) Try.results52 (.cons (.agg rfl rfl ud55 rfl inf55 (us := [_, _]) rfl rfl) (.cons (.tmp rfl) (.cons (.tmp rfl) .nil))) [] (by decide) rfl ?_ ?_ ?_ <;> repeat' (skip; first | exact .nil | refine .cons rfl ?_ ?_ | refine .cons ?_ ?_ | refine .row ?_ | refine .rset ?_ | refine .box ?_ | exact .gone | refine .aggL ?_ | refine .tupL ?_ | refine .old rfl ?_ | refine .new rfl rfl rfl ?_ | exact .nl | exact .optr rfl | exact .nptr rfl rfl rfl | refine .t ?_ | exact .any _ | rfl)))
   ·rw [decide_eq_false h2, Bool.false_and] at hr
    subst hr
    simp only [Bool.false_eq_true, if_false]
    refine Cd.enter' Try.func52 rfl Try.ntmps52 rfl ?_
    repeat' (first | ((with_reducible refine kAL ?_); (first | (refine kL 1 rfl ?_; first | ((first | refine A_as (d := 5) rfl rfl rfl rfl ?_ | refine A_move (d := 5) rfl rfl _ (.inr rfl) (y := .sl _ _ _) rfl ?_ | refine A_move (d := 5) rfl rfl _ (.inr rfl) (y := .nl) rfl ?_ | refine A_move (d := 5) rfl rfl _ (.inr rfl) (y := .ptr _ _) rfl ?_ | refine A_move (d := 5) rfl rfl _ (.inr rfl) (y := .ln _) rfl ?_ | refine A_move (d := 5) rfl rfl _ (.inr rfl) (y := .lp _) rfl ?_ | refine A_move (d := 5) rfl rfl _ (.inr rfl) (y := .fn _ _ _) rfl ?_ | refine A_move (d := 5) rfl rfl _ (.inr rfl) (y := .sub _ _ _ _) rfl ?_ | refine A_move (d := 5) rfl rfl _ (.inr rfl) (y := .rp _ _ _ _) rfl ?_ | refine A_move (d := 5) rfl rfl _ (.inr rfl) (y := .agg _) rfl ?_ | refine A_move (d := 5) rfl rfl _ (.inr rfl) (y := .tup _) rfl ?_); (try refine uz 5 ?_))) | (refine kL 1930 rfl ?_; first | refine uK (c1) ?_) | (refine kL 1962 rfl ?_; first | refine uK (c2) ?_) | refine uA ?_)) | ((with_reducible refine kRG ?_); (first | (refine kR 1098 rfl ?_; first | (first | refine uQ (c3) 0 ?_ | refine uQ (c3) 1 ?_ | refine uQ (c3) 2 ?_ | refine uQ (c3) 3 ?_ | refine uQ (c3) 4 ?_ | refine uQ (c3) 5 ?_ | refine uQ (c3) 6 ?_ | refine uQ (c3) 7 ?_ | refine uQ (c3) 8 ?_ | refine uQ (c3) 9 ?_ | refine uQ (c3) 10 ?_ | refine uQ (c3) 11 ?_ | refine uQ (c3) 12 ?_ | refine uQ (c3) 13 ?_)) | refine uR ?_)) | refine uC ?_ | refine kcp rfl (fun hc => ?_) (fun hc => ?_) | refine kcn rfl (fun hc => ?_) (fun hc => ?_) | refine kcb rfl (fun hc => ?_) (fun hc => ?_) | refine kcc rfl (fun hc => ?_) (fun hc => ?_) | refine AW.drawU (id := 4) mixed 0 qR ?_ | refine AW.drawU (id := 6) mixed 0 qR ?_ | fail)
    all_goals first | (exfalso; omega) | ((first | exact Fin.q Try.results52 (.cons (.agg rfl rfl ud55 rfl inf55 (us := [_, _]) rfl rfl) (.cons (.tmp rfl) (.cons (.tmp rfl) .nil))) [] | refine Fin.q Try.results52 (.cons (.agg rfl rfl ud55 rfl inf55 (us := [_, _]) rfl rfl) (.cons (.tmp rfl) (.cons (.tmp rfl) .nil))) [] (hr := (.tupL (.cons (.t ?_) (.cons (.t ?_) (.cons (.t ?_) .nil))))) | refine Fin.mkv (rs := _) Try.results52 (.cons (.agg rfl rfl ud55 rfl inf55 (us := [_, _]) rfl rfl) (.cons (.tmp rfl) (.cons (.tmp rfl) .nil))) [] (by decide) rfl ?_ ?_ ?_ <;> repeat' (skip; first | exact .nil | refine .cons rfl ?_ ?_ | refine .cons ?_ ?_ | refine .row ?_ | refine .rset ?_ | refine .box ?_ | exact .gone | refine .aggL ?_ | refine .tupL ?_ | refine .old rfl ?_ | refine .new rfl rfl rfl ?_ | exact .nl | exact .optr rfl | exact .nptr rfl rfl rfl | refine .t ?_ | exact .any _ | rfl)))
theorem rroot_c (c : DConf) (hs : c.start.length ≤ 1152921504606846976) (l : List Int) (hU : okU l) : Cd Try.prog 56 [aCf c, .ln (l.map tU)] (.tup [.agg [i64 (rootI c l), i64 (rootT c l)], fU (rootR c l), bo (rOkM c l)]) [] := by
 have h1 : (l.map tU).length = l.length := List.length_map _
 have c1 := rfits_c c hs l
 unfold rootI rootT rootR
 cases hf : fitM c l
 ·rw [fm_no hf, if_neg (by simp), if_neg (by simp), if_neg (by simp)]
  rw [hf] at c1
  refine Cd.enter' Try.func56 rfl Try.ntmps56 rfl ?_
  repeat' (first | ((with_reducible refine kAL ?_); (first | (refine kL 1 rfl ?_; first | ((first | refine A_as (d := 5) rfl rfl rfl rfl ?_ | refine A_move (d := 5) rfl rfl _ (.inr rfl) (y := .sl _ _ _) rfl ?_ | refine A_move (d := 5) rfl rfl _ (.inr rfl) (y := .nl) rfl ?_ | refine A_move (d := 5) rfl rfl _ (.inr rfl) (y := .ptr _ _) rfl ?_ | refine A_move (d := 5) rfl rfl _ (.inr rfl) (y := .ln _) rfl ?_ | refine A_move (d := 5) rfl rfl _ (.inr rfl) (y := .lp _) rfl ?_ | refine A_move (d := 5) rfl rfl _ (.inr rfl) (y := .fn _ _ _) rfl ?_ | refine A_move (d := 5) rfl rfl _ (.inr rfl) (y := .sub _ _ _ _) rfl ?_ | refine A_move (d := 5) rfl rfl _ (.inr rfl) (y := .rp _ _ _ _) rfl ?_ | refine A_move (d := 5) rfl rfl _ (.inr rfl) (y := .agg _) rfl ?_ | refine A_move (d := 5) rfl rfl _ (.inr rfl) (y := .tup _) rfl ?_); (try refine uz 5 ?_))) | (refine kL 1994 rfl ?_; first | refine uK (c1) ?_) | refine uA ?_)) | refine uR ?_ | refine uC ?_ | refine kcp rfl (fun hc => ?_) (fun hc => ?_) | refine kcn rfl (fun hc => ?_) (fun hc => ?_) | refine kcb rfl (fun hc => ?_) (fun hc => ?_) | refine kcc rfl (fun hc => ?_) (fun hc => ?_) | refine AW.drawU (id := 4) mixed 4 qR ?_ | refine AW.drawU (id := 6) mixed 2 qR ?_ | fail)
  all_goals first | (exfalso; omega) | ((first | exact Fin.q Try.results56 (.cons (.agg rfl rfl ud55 rfl inf55 (us := [_, _]) rfl rfl) (.cons (.tmp rfl) (.cons (.tmp rfl) .nil))) [] | refine Fin.q Try.results56 (.cons (.agg rfl rfl ud55 rfl inf55 (us := [_, _]) rfl rfl) (.cons (.tmp rfl) (.cons (.tmp rfl) .nil))) [] (hr := (.tupL (.cons (.t ?_) (.cons (.t ?_) (.cons (.t ?_) .nil))))) | refine Fin.mkv (rs := _) Try.results56 (.cons (.agg rfl rfl ud55 rfl inf55 (us := [_, _]) rfl rfl) (.cons (.tmp rfl) (.cons (.tmp rfl) .nil))) [] (by decide) rfl ?_ ?_ ?_ <;> repeat' (skip; first | exact .nil | refine .cons rfl ?_ ?_ | refine .cons ?_ ?_ | refine .row ?_ | refine .rset ?_ | refine .box ?_ | exact .gone | refine .aggL ?_ | refine .tupL ?_ | refine .old rfl ?_ | refine .new rfl rfl rfl ?_ | exact .nl | exact .optr rfl | exact .nptr rfl rfl rfl | refine .t ?_ | exact .any _ | rfl)))
 ·obtain ⟨T, X, F⟩ := fm_of hf
  rw [hf] at c1
  have hlen := F.len
  obtain ⟨w1, w2, w3⟩ := u_at hU (n := 0) (by omega)
  have c2 := fread1_c (l.getD 0 0) ⟨w2, w3⟩
  have c3 := rnodesL_c c hs
  have c4 := rtag_c c hs l hU (refI (l.getD 0 0))
  have c5 := rrec_c c hs l (refI (l.getD 0 0))
  have hr : rOkM c l = (refOk (l.getD 0 0) && decide (refI (l.getD 0 0) < nodesL c) && decide (tagM c l (refI (l.getD 0 0)) = refT (l.getD 0 0))) := by unfold rOkM; rw [hf, Bool.true_and]
  generalize tagM c l (refI (l.getD 0 0)) = tg at *
  generalize recM c l (refI (l.getD 0 0)) = rc at *
  generalize refI (l.getD 0 0) = ri at *
  generalize refT (l.getD 0 0) = rt at *
  generalize refOk (l.getD 0 0) = ro at *
  generalize l.getD 0 0 = w at *
  generalize nodesL c = g6 at *
  generalize rOkM c l = ok at *
  clear F hf
  cases ro
  ·rw [Bool.false_and, Bool.false_and] at hr
   subst hr
   simp only [Bool.false_eq_true, if_false]
   refine Cd.enter' Try.func56 rfl Try.ntmps56 rfl ?_
   repeat' (first | ((with_reducible refine kAL ?_); (first | (refine kL 1 rfl ?_; first | ((first | refine A_as (d := 5) rfl rfl rfl rfl ?_ | refine A_move (d := 5) rfl rfl _ (.inr rfl) (y := .sl _ _ _) rfl ?_ | refine A_move (d := 5) rfl rfl _ (.inr rfl) (y := .nl) rfl ?_ | refine A_move (d := 5) rfl rfl _ (.inr rfl) (y := .ptr _ _) rfl ?_ | refine A_move (d := 5) rfl rfl _ (.inr rfl) (y := .ln _) rfl ?_ | refine A_move (d := 5) rfl rfl _ (.inr rfl) (y := .lp _) rfl ?_ | refine A_move (d := 5) rfl rfl _ (.inr rfl) (y := .fn _ _ _) rfl ?_ | refine A_move (d := 5) rfl rfl _ (.inr rfl) (y := .sub _ _ _ _) rfl ?_ | refine A_move (d := 5) rfl rfl _ (.inr rfl) (y := .rp _ _ _ _) rfl ?_ | refine A_move (d := 5) rfl rfl _ (.inr rfl) (y := .agg _) rfl ?_ | refine A_move (d := 5) rfl rfl _ (.inr rfl) (y := .tup _) rfl ?_); (try refine uz 5 ?_))) | (refine kL 1994 rfl ?_; first | refine uK (c1) ?_) | (refine kL 2026 rfl ?_; first | refine uK (c2) ?_) | refine uA ?_)) | refine uR ?_ | refine uC ?_ | refine kcp rfl (fun hc => ?_) (fun hc => ?_) | refine kcn rfl (fun hc => ?_) (fun hc => ?_) | refine kcb rfl (fun hc => ?_) (fun hc => ?_) | refine kcc rfl (fun hc => ?_) (fun hc => ?_) | refine AW.drawU (id := 4) mixed 0 qR ?_ | refine AW.drawU (id := 6) mixed 0 qR ?_ | fail)
   all_goals first | (exfalso; omega) | ((first | exact Fin.q Try.results56 (.cons (.agg rfl rfl ud55 rfl inf55 (us := [_, _]) rfl rfl) (.cons (.tmp rfl) (.cons (.tmp rfl) .nil))) [] | refine Fin.q Try.results56 (.cons (.agg rfl rfl ud55 rfl inf55 (us := [_, _]) rfl rfl) (.cons (.tmp rfl) (.cons (.tmp rfl) .nil))) [] (hr := (.tupL (.cons (.t ?_) (.cons (.t ?_) (.cons (.t ?_) .nil))))) | refine Fin.mkv (rs := _) Try.results56 (.cons (.agg rfl rfl ud55 rfl inf55 (us := [_, _]) rfl rfl) (.cons (.tmp rfl) (.cons (.tmp rfl) .nil))) [] (by decide) rfl ?_ ?_ ?_ <;> repeat' (skip; first | exact .nil | refine .cons rfl ?_ ?_ | refine .cons ?_ ?_ | refine .row ?_ | refine .rset ?_ | refine .box ?_ | exact .gone | refine .aggL ?_ | refine .tupL ?_ | refine .old rfl ?_ | refine .new rfl rfl rfl ?_ | exact .nl | exact .optr rfl | exact .nptr rfl rfl rfl | refine .t ?_ | exact .any _ | rfl)))
  ·rw [Bool.true_and] at hr
   by_cases h2 : ri < g6
   ·by_cases h3 : tg = rt
    ·rw [decide_eq_true h2, decide_eq_true h3] at hr
     subst hr
     subst h3
     simp only [Bool.and_self, if_true]
     refine Cd.enter' Try.func56 rfl Try.ntmps56 rfl ?_
     repeat' (first | ((with_reducible refine kAL ?_); (first | (refine kL 1994 rfl ?_; first | refine uK (c1) ?_) | (refine kL 2026 rfl ?_; first | refine uK (c2) ?_) | refine uA ?_)) | ((with_reducible refine kRG ?_); (first | (refine kR 1130 rfl ?_; first | (first | refine uQ (c3) 0 ?_ | refine uQ (c3) 1 ?_ | refine uQ (c3) 2 ?_ | refine uQ (c3) 3 ?_ | refine uQ (c3) 4 ?_ | refine uQ (c3) 5 ?_ | refine uQ (c3) 6 ?_ | refine uQ (c3) 7 ?_ | refine uQ (c3) 8 ?_ | refine uQ (c3) 9 ?_ | refine uQ (c3) 10 ?_ | refine uQ (c3) 11 ?_ | refine uQ (c3) 12 ?_ | refine uQ (c3) 13 ?_)) | (refine kR 2922 rfl ?_; first | (first | refine uQ (c4) 0 ?_ | refine uQ (c4) 1 ?_ | refine uQ (c4) 2 ?_ | refine uQ (c4) 3 ?_ | refine uQ (c4) 4 ?_ | refine uQ (c4) 5 ?_ | refine uQ (c4) 6 ?_ | refine uQ (c4) 7 ?_ | refine uQ (c4) 8 ?_ | refine uQ (c4) 9 ?_ | refine uQ (c4) 10 ?_ | refine uQ (c4) 11 ?_ | refine uQ (c4) 12 ?_ | refine uQ (c4) 13 ?_)) | (refine kR 2954 rfl ?_; first | (first | refine uQ (c5) 0 ?_ | refine uQ (c5) 1 ?_ | refine uQ (c5) 2 ?_ | refine uQ (c5) 3 ?_ | refine uQ (c5) 4 ?_ | refine uQ (c5) 5 ?_ | refine uQ (c5) 6 ?_ | refine uQ (c5) 7 ?_ | refine uQ (c5) 8 ?_ | refine uQ (c5) 9 ?_ | refine uQ (c5) 10 ?_ | refine uQ (c5) 11 ?_ | refine uQ (c5) 12 ?_ | refine uQ (c5) 13 ?_)) | refine uR ?_)) | refine uC ?_ | refine kcp rfl (fun hc => ?_) (fun hc => ?_) | refine kcn rfl (fun hc => ?_) (fun hc => ?_) | refine kcb rfl (fun hc => ?_) (fun hc => ?_) | refine kcc rfl (fun hc => ?_) (fun hc => ?_) | refine AW.drawU (id := 4) mixed 0 qR ?_ | refine AW.drawU (id := 6) mixed 0 qR ?_ | fail)
     all_goals first | (exfalso; omega) | ((first | exact Fin.q Try.results56 (.cons (.agg rfl rfl ud55 rfl inf55 (us := [_, _]) rfl rfl) (.cons (.tmp rfl) (.cons (.tmp rfl) .nil))) [] | refine Fin.q Try.results56 (.cons (.agg rfl rfl ud55 rfl inf55 (us := [_, _]) rfl rfl) (.cons (.tmp rfl) (.cons (.tmp rfl) .nil))) [] (hr := (.tupL (.cons (.t ?_) (.cons (.t ?_) (.cons (.t ?_) .nil))))) | refine Fin.mkv (rs := _) Try.results56 (.cons (.agg rfl rfl ud55 rfl inf55 (us := [_, _]) rfl rfl) (.cons (.tmp rfl) (.cons (.tmp rfl) .nil))) [] (by decide) rfl ?_ ?_ ?_ <;> repeat' (skip; first | exact .nil | refine .cons rfl ?_ ?_ | refine .cons ?_ ?_ | refine .row ?_ | refine .rset ?_ | refine .box ?_ | exact .gone | refine .aggL ?_ | refine .tupL ?_ | refine .old rfl ?_ | refine .new rfl rfl rfl ?_ | exact .nl | exact .optr rfl | exact .nptr rfl rfl rfl | refine .t ?_ | exact .any _ | rfl)))
    ·rw [decide_eq_true h2, decide_eq_false h3] at hr
     subst hr
     simp only [Bool.and_false, Bool.false_eq_true, if_false]
     refine Cd.enter' Try.func56 rfl Try.ntmps56 rfl ?_
     repeat' (first | ((with_reducible refine kAL ?_); (first | (refine kL 1 rfl ?_; first | ((first | refine A_as (d := 5) rfl rfl rfl rfl ?_ | refine A_move (d := 5) rfl rfl _ (.inr rfl) (y := .sl _ _ _) rfl ?_ | refine A_move (d := 5) rfl rfl _ (.inr rfl) (y := .nl) rfl ?_ | refine A_move (d := 5) rfl rfl _ (.inr rfl) (y := .ptr _ _) rfl ?_ | refine A_move (d := 5) rfl rfl _ (.inr rfl) (y := .ln _) rfl ?_ | refine A_move (d := 5) rfl rfl _ (.inr rfl) (y := .lp _) rfl ?_ | refine A_move (d := 5) rfl rfl _ (.inr rfl) (y := .fn _ _ _) rfl ?_ | refine A_move (d := 5) rfl rfl _ (.inr rfl) (y := .sub _ _ _ _) rfl ?_ | refine A_move (d := 5) rfl rfl _ (.inr rfl) (y := .rp _ _ _ _) rfl ?_ | refine A_move (d := 5) rfl rfl _ (.inr rfl) (y := .agg _) rfl ?_ | refine A_move (d := 5) rfl rfl _ (.inr rfl) (y := .tup _) rfl ?_); (try refine uz 5 ?_))) | (refine kL 1994 rfl ?_; first | refine uK (c1) ?_) | (refine kL 2026 rfl ?_; first | refine uK (c2) ?_) | refine uA ?_)) | ((with_reducible refine kRG ?_); (first | (refine kR 1130 rfl ?_; first | (first | refine uQ (c3) 0 ?_ | refine uQ (c3) 1 ?_ | refine uQ (c3) 2 ?_ | refine uQ (c3) 3 ?_ | refine uQ (c3) 4 ?_ | refine uQ (c3) 5 ?_ | refine uQ (c3) 6 ?_ | refine uQ (c3) 7 ?_ | refine uQ (c3) 8 ?_ | refine uQ (c3) 9 ?_ | refine uQ (c3) 10 ?_ | refine uQ (c3) 11 ?_ | refine uQ (c3) 12 ?_ | refine uQ (c3) 13 ?_)) | (refine kR 2922 rfl ?_; first | (first | refine uQ (c4) 0 ?_ | refine uQ (c4) 1 ?_ | refine uQ (c4) 2 ?_ | refine uQ (c4) 3 ?_ | refine uQ (c4) 4 ?_ | refine uQ (c4) 5 ?_ | refine uQ (c4) 6 ?_ | refine uQ (c4) 7 ?_ | refine uQ (c4) 8 ?_ | refine uQ (c4) 9 ?_ | refine uQ (c4) 10 ?_ | refine uQ (c4) 11 ?_ | refine uQ (c4) 12 ?_ | refine uQ (c4) 13 ?_)) | refine uR ?_)) | refine uC ?_ | refine kcp rfl (fun hc => ?_) (fun hc => ?_) | refine kcn rfl (fun hc => ?_) (fun hc => ?_) | refine kcb rfl (fun hc => ?_) (fun hc => ?_) | refine kcc rfl (fun hc => ?_) (fun hc => ?_) | refine AW.drawU (id := 4) mixed 0 qR ?_ | refine AW.drawU (id := 6) mixed 0 qR ?_ | fail)
     all_goals first | (exfalso; omega) | ((first | exact Fin.q Try.results56 (.cons (.agg rfl rfl ud55 rfl inf55 (us := [_, _]) rfl rfl) (.cons (.tmp rfl) (.cons (.tmp rfl) .nil))) [] | refine Fin.q Try.results56 (.cons (.agg rfl rfl ud55 rfl inf55 (us := [_, _]) rfl rfl) (.cons (.tmp rfl) (.cons (.tmp rfl) .nil))) [] (hr := (.tupL (.cons (.t ?_) (.cons (.t ?_) (.cons (.t ?_) .nil))))) | refine Fin.mkv (rs := _) Try.results56 (.cons (.agg rfl rfl ud55 rfl inf55 (us := [_, _]) rfl rfl) (.cons (.tmp rfl) (.cons (.tmp rfl) .nil))) [] (by decide) rfl ?_ ?_ ?_ <;> repeat' (skip; first | exact .nil | refine .cons rfl ?_ ?_ | refine .cons ?_ ?_ | refine .row ?_ | refine .rset ?_ | refine .box ?_ | exact .gone | refine .aggL ?_ | refine .tupL ?_ | refine .old rfl ?_ | refine .new rfl rfl rfl ?_ | exact .nl | exact .optr rfl | exact .nptr rfl rfl rfl | refine .t ?_ | exact .any _ | rfl)))
   ·rw [decide_eq_false h2, Bool.false_and] at hr
    subst hr
    simp only [Bool.false_eq_true, if_false]
    refine Cd.enter' Try.func56 rfl Try.ntmps56 rfl ?_
    repeat' (first | ((with_reducible refine kAL ?_); (first | (refine kL 1 rfl ?_; first | ((first | refine A_as (d := 5) rfl rfl rfl rfl ?_ | refine A_move (d := 5) rfl rfl _ (.inr rfl) (y := .sl _ _ _) rfl ?_ | refine A_move (d := 5) rfl rfl _ (.inr rfl) (y := .nl) rfl ?_ | refine A_move (d := 5) rfl rfl _ (.inr rfl) (y := .ptr _ _) rfl ?_ | refine A_move (d := 5) rfl rfl _ (.inr rfl) (y := .ln _) rfl ?_ | refine A_move (d := 5) rfl rfl _ (.inr rfl) (y := .lp _) rfl ?_ | refine A_move (d := 5) rfl rfl _ (.inr rfl) (y := .fn _ _ _) rfl ?_ | refine A_move (d := 5) rfl rfl _ (.inr rfl) (y := .sub _ _ _ _) rfl ?_ | refine A_move (d := 5) rfl rfl _ (.inr rfl) (y := .rp _ _ _ _) rfl ?_ | refine A_move (d := 5) rfl rfl _ (.inr rfl) (y := .agg _) rfl ?_ | refine A_move (d := 5) rfl rfl _ (.inr rfl) (y := .tup _) rfl ?_); (try refine uz 5 ?_))) | (refine kL 1994 rfl ?_; first | refine uK (c1) ?_) | (refine kL 2026 rfl ?_; first | refine uK (c2) ?_) | refine uA ?_)) | ((with_reducible refine kRG ?_); (first | (refine kR 1130 rfl ?_; first | (first | refine uQ (c3) 0 ?_ | refine uQ (c3) 1 ?_ | refine uQ (c3) 2 ?_ | refine uQ (c3) 3 ?_ | refine uQ (c3) 4 ?_ | refine uQ (c3) 5 ?_ | refine uQ (c3) 6 ?_ | refine uQ (c3) 7 ?_ | refine uQ (c3) 8 ?_ | refine uQ (c3) 9 ?_ | refine uQ (c3) 10 ?_ | refine uQ (c3) 11 ?_ | refine uQ (c3) 12 ?_ | refine uQ (c3) 13 ?_)) | refine uR ?_)) | refine uC ?_ | refine kcp rfl (fun hc => ?_) (fun hc => ?_) | refine kcn rfl (fun hc => ?_) (fun hc => ?_) | refine kcb rfl (fun hc => ?_) (fun hc => ?_) | refine kcc rfl (fun hc => ?_) (fun hc => ?_) | refine AW.drawU (id := 4) mixed 0 qR ?_ | refine AW.drawU (id := 6) mixed 0 qR ?_ | fail)
    all_goals first | (exfalso; omega) | ((first | exact Fin.q Try.results56 (.cons (.agg rfl rfl ud55 rfl inf55 (us := [_, _]) rfl rfl) (.cons (.tmp rfl) (.cons (.tmp rfl) .nil))) [] | refine Fin.q Try.results56 (.cons (.agg rfl rfl ud55 rfl inf55 (us := [_, _]) rfl rfl) (.cons (.tmp rfl) (.cons (.tmp rfl) .nil))) [] (hr := (.tupL (.cons (.t ?_) (.cons (.t ?_) (.cons (.t ?_) .nil))))) | refine Fin.mkv (rs := _) Try.results56 (.cons (.agg rfl rfl ud55 rfl inf55 (us := [_, _]) rfl rfl) (.cons (.tmp rfl) (.cons (.tmp rfl) .nil))) [] (by decide) rfl ?_ ?_ ?_ <;> repeat' (skip; first | exact .nil | refine .cons rfl ?_ ?_ | refine .cons ?_ ?_ | refine .row ?_ | refine .rset ?_ | refine .box ?_ | exact .gone | refine .aggL ?_ | refine .tupL ?_ | refine .old rfl ?_ | refine .new rfl rfl rfl ?_ | exact .nl | exact .optr rfl | exact .nptr rfl rfl rfl | refine .t ?_ | exact .any _ | rfl)))
end
end Go.Proofs.Ytnfbggpkiekpdaa
