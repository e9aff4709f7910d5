/- Joined: XTStatsB, XTStatsC, XTLaw32, XTSortC, XTStatsP, XTIdx, XTConI. -/
import Derived.Test.YtnibnbcmnaflmaaKR32h
import Derived.Test.YtnibnbcmnaflmaaKR32c
import Derived.Test.YtnibnbcmnaflmaaKR32e
import Derived.Sort.Grow
namespace Go.Proofs.Ytnibnbcmnaflmaa
open Go.RowKit
set_option linter.unusedVariables false
set_option linter.unusedSimpArgs false
set_option linter.unnecessarySimpa false
set_option maxRecDepth 100000
set_option maxHeartbeats 64000000
section
attribute [local irreducible] AL AW RG Fin C Cd Cio thenQ blockQ retQ
set_option maxRecDepth 100000
theorem slowK_next {l : List DSpan} {a : DSpan} {k : Nat} (h : l[k]? = some a) : slowK l (k + 1) = if a.fin = 0 then slowK l k else if slowK l k < 0 ∨ dur (l.getD (slowK l k).toNat default) < dur a then (k : Int) else slowK l k := by
 rw [slowK, List.getD_eq_getElem?_getD, h]; rfl
theorem getD_at {l : List DSpan} {n : Nat} {a : DSpan} (h : l[n]? = some a) : l.getD n default = a := by rw [List.getD_eq_getElem?_getD, h]; rfl
theorem slow_c (l : List DSpan) (hl : l.length ≤ 1152921504606846976) : Cd Try.prog 62 [.ln (l.map tSp)] (i64 (slowK l l.length)) [] := by
 have h1 : (l.map tSp).length = l.length := List.length_map _
 refine Cd.enter' Try.func62 rfl Try.ntmps62 rfl ?_
 repeat' (first | refine uA ?_ | refine uR ?_ | refine uC ?_ | refine kcp rfl (fun hc => ?_) (fun hc => ?_) | refine kcn rfl (fun hc => ?_) (fun hc => ?_) | refine kcb rfl (fun hc => ?_) (fun hc => ?_) | refine kcc rfl (fun hc => ?_) (fun hc => ?_) | refine AW.drawU (id := 6) mixed 0 qR ?_ | fail)
 refine AW.loopP (fun (x : Nat × Int) => x.1 ≤ l.length ∧ x.2 = slowK l x.1) (fun (x : Nat × Int) => (pu (pu (pu (pu (pu (fun _ => .any) 0 (.ln (l.map tSp))) 6 (.ln (l.map tSp))) 7 (i64 (l.map tSp).length)) 8 (i64 x.1)) 3 (i64 x.2))) (fun (x : Nat × Int) => []) (fun (x : Nat × Int) => l.length - x.1) ((0, -1)) ?_ ?_ ?_
 ·exact ⟨Nat.zero_le _, rfl⟩
 ·exact Wk.cq 0
 ·rintro ⟨q, n⟩ ⟨h2, h3⟩
  dsimp only at h2 h3 ⊢
  by_cases hq : q < l.length
  ·obtain ⟨a, ha⟩ : ∃ a, l[q]? = some a := ⟨_, List.getElem?_eq_getElem hq⟩
   have hn := slowK_next ha
   have hb := slowK_lt l q
   rw [← h3] at hn hb
   by_cases h0 : n < 0
   ·replace hn : slowK l (q + 1) = if a.fin = 0 then n else (q : Int) := by
     rw [hn]
     by_cases p1 : a.fin = 0
     ·rw [if_pos p1, if_pos p1]
     ·rw [if_neg p1, if_neg p1, if_pos (.inl h0)]
    by_cases p1 : a.fin = 0
    all_goals
     repeat' (first | refine uA ?_ | refine uR ?_ | refine uC ?_ | refine kcp rfl (fun hc => ?_) (fun hc => ?_) | refine kcn rfl (fun hc => ?_) (fun hc => ?_) | refine kcb rfl (fun hc => ?_) (fun hc => ?_) | refine kcc rfl (fun hc => ?_) (fun hc => ?_) | refine AW.drawU (id := 6) mixed 0 qR ?_ | fail)
     all_goals first | (exfalso; omega) | (refine ⟨(q + 1, n), ⟨by dsimp only; omega, by dsimp only; rw [hn, if_pos (by assumption)]⟩, by dsimp only; omega, ?_⟩; (exact Wk.cq 0); done) | (refine ⟨(q + 1, (q : Int)), ⟨by dsimp only; omega, by dsimp only; rw [hn, if_neg (by assumption)]⟩, by dsimp only; omega, ?_⟩; (exact Wk.cq 0); done)
   ·obtain ⟨m, rfl⟩ : ∃ m : Nat, n = m := ⟨n.toNat, by omega⟩
    obtain ⟨b, hm⟩ : ∃ b, l[m]? = some b := ⟨_, List.getElem?_eq_getElem (by omega)⟩
    rw [Int.toNat_natCast, getD_at hm] at hn
    unfold dur at hn
    by_cases p1 : a.fin = 0 <;> by_cases p2 : IntKind.i64.wrap (b.fin - b.beg) < IntKind.i64.wrap (a.fin - a.beg)
    all_goals
     repeat' (first | refine uA ?_ | refine uR ?_ | refine uC ?_ | refine kcp rfl (fun hc => ?_) (fun hc => ?_) | refine kcn rfl (fun hc => ?_) (fun hc => ?_) | refine kcb rfl (fun hc => ?_) (fun hc => ?_) | refine kcc rfl (fun hc => ?_) (fun hc => ?_) | refine AW.drawU (id := 6) mixed 0 qR ?_ | fail)
     all_goals first | (exfalso; omega) | (refine ⟨(q + 1, (m : Int)), ⟨by dsimp only; omega, by dsimp only; rw [hn]; first | rw [if_pos (by assumption)] | rw [if_neg (by assumption), if_neg (by omega)]⟩, by dsimp only; omega, ?_⟩; (exact Wk.cq 0); done) | (refine ⟨(q + 1, (q : Int)), ⟨by dsimp only; omega, by dsimp only; rw [hn, if_neg (by assumption), if_pos (.inr (by assumption))]⟩, by dsimp only; omega, ?_⟩; (exact Wk.cq 0); done)
  ·have e : q = l.length := by omega
   subst e
   subst h3
   repeat' (first | refine uA ?_ | refine uR ?_ | refine uC ?_ | refine kcp rfl (fun hc => ?_) (fun hc => ?_) | refine kcn rfl (fun hc => ?_) (fun hc => ?_) | refine kcb rfl (fun hc => ?_) (fun hc => ?_) | refine kcc rfl (fun hc => ?_) (fun hc => ?_) | refine AW.drawU (id := 6) mixed 0 qR ?_ | fail)
   all_goals first | (exfalso; omega) | ((first | exact Fin.q Try.results62 (.cons (.tmp rfl) .nil) [] | refine Fin.q Try.results62 (.cons (.tmp rfl) .nil) [] (hr := (.t ?_)) | refine Fin.mkv (rs := _) Try.results62 (.cons (.tmp rfl) .nil) [] (by decide) rfl ?_ ?_ ?_ <;> repeat' (skip; first | exact .nil | refine .cons rfl ?_ ?_ | refine .cons ?_ ?_ | refine .row ?_ | refine .rset ?_ | refine .box ?_ | exact .gone | refine .aggL ?_ | refine .tupL ?_ | refine .old rfl ?_ | refine .new rfl rfl rfl ?_ | exact .nl | exact .optr rfl | exact .nptr rfl rfl rfl | refine .t ?_ | exact .any _ | rfl)))
end
section
attribute [local irreducible] AL AW RG Fin C Cd Cio thenQ blockQ retQ
set_option maxRecDepth 100000
end
section
attribute [local irreducible] AL AW RG Fin C Cd Cio thenQ blockQ retQ
set_option maxRecDepth 100000
def n1 : DNote := ⟨1, 1, 1, 3, ⟨0, 0, 0, false, []⟩, ⟨0, 0, 0, 0⟩⟩
def n2 : DNote := ⟨3, 1, 1, 9, ⟨0, 0, 0, false, []⟩, ⟨0, 0, 0, 0⟩⟩
def n3 : DNote := ⟨1, 0, 1, 9, ⟨0, 0, 0, false, []⟩, ⟨0, 0, 0, 0⟩⟩
def p1 : DOp := ⟨1, 0, 0, ⟨0, 0, 0, false, []⟩⟩
def p0 : DOp := ⟨0, 0, 0, ⟨0, 0, 0, false, []⟩⟩
def u0 : DTurn := ⟨0, 0, [p1, p0]⟩
def fc : Nat → Int | 0 => 0 | 1 => 1 | 2 => 1 | _ => 2
def fe : Nat → Int | 0 => 0 | 1 => 0 | _ => 1
theorem of_c : Cd Try.prog 27 [.ln [tNt n1, tNt n2, tNt n3], .ln [tTn u0]] (.agg [i64 2, i64 1, i64 0, i64 1, i64 1, i64 2]) [] := by
 refine Cd.enter' Try.func27 rfl Try.ntmps27 rfl ?_
 repeat' (first | refine uA ?_ | refine uC ?_ | refine kcp rfl (fun hc => ?_) (fun hc => ?_) | refine kcn rfl (fun hc => ?_) (fun hc => ?_) | refine kcb rfl (fun hc => ?_) (fun hc => ?_) | refine kcc rfl (fun hc => ?_) (fun hc => ?_) | fail)
 refine AW.loopP (fun (q : Nat) => q ≤ 3) (fun (q : Nat) => (pu (pu (pu (pu (pu (pu (fun _ => .any) 1 (.ln [tTn u0])) 4 (.ptr 0 0)) 5 (.ptr 1 0)) 12 (.ln [tNt n1, tNt n2, tNt n3])) 13 (i64 3)) 14 (i64 q))) (fun (q : Nat) => [.box 63 [i64 0, i64 0, i64 0, i64 0, i64 0, i64 0], .box 63 [i64 (fc q), i64 (fe q), i64 0, i64 0, i64 0, i64 0]]) (fun (q : Nat) => 3 - q) (0) ?_ ?_ ?_
 ·omega
 ·exact Wk.cq 2
 ·intro q hq
  obtain rfl | rfl | rfl | rfl : q = 0 ∨ q = 1 ∨ q = 2 ∨ q = 3 := by omega
  ·repeat' (first | refine uA ?_ | refine uC ?_ | refine kcp rfl (fun hc => ?_) (fun hc => ?_) | refine kcn rfl (fun hc => ?_) (fun hc => ?_) | refine kcb rfl (fun hc => ?_) (fun hc => ?_) | refine kcc rfl (fun hc => ?_) (fun hc => ?_) | fail)
   all_goals first | (exfalso; omega) | (refine ⟨1, by omega, by omega, ?_⟩; (exact Wk.cq 2); done)
  ·repeat' (first | refine uA ?_ | refine uC ?_ | refine kcp rfl (fun hc => ?_) (fun hc => ?_) | refine kcn rfl (fun hc => ?_) (fun hc => ?_) | refine kcb rfl (fun hc => ?_) (fun hc => ?_) | refine kcc rfl (fun hc => ?_) (fun hc => ?_) | fail)
   all_goals first | (exfalso; omega) | (refine ⟨2, by omega, by omega, ?_⟩; (exact Wk.cq 2); done)
  ·repeat' (first | refine uA ?_ | refine uC ?_ | refine kcp rfl (fun hc => ?_) (fun hc => ?_) | refine kcn rfl (fun hc => ?_) (fun hc => ?_) | refine kcb rfl (fun hc => ?_) (fun hc => ?_) | refine kcc rfl (fun hc => ?_) (fun hc => ?_) | fail)
   all_goals first | (exfalso; omega) | (refine ⟨3, by omega, by omega, ?_⟩; (exact Wk.cq 2); done)
  ·repeat' (first | refine uA ?_ | refine uC ?_ | refine kcp rfl (fun hc => ?_) (fun hc => ?_) | refine kcn rfl (fun hc => ?_) (fun hc => ?_) | refine kcb rfl (fun hc => ?_) (fun hc => ?_) | refine kcc rfl (fun hc => ?_) (fun hc => ?_) | fail)
   all_goals first | (exfalso; omega) | skip
   refine AW.loopP (fun (q : Nat) => q ≤ 1) (fun (q : Nat) => (pu (pu (pu (pu (pu (fun _ => .any) 4 (.ptr 0 0)) 5 (.ptr 1 0)) 39 (.ln [tTn u0])) 40 (i64 1)) 41 (i64 q))) (fun (q : Nat) => [.box 63 [i64 0, i64 0, i64 0, i64 0, i64 0, i64 0], .box 63 [i64 2, i64 1, i64 0, i64 (fc (2 * q)), i64 (fc (2 * q)), i64 (fc (3 * q))]]) (fun (q : Nat) => 1 - q) (0) ?_ ?_ ?_
   ·omega
   ·exact Wk.cq 2
   ·intro q hq
    obtain rfl | rfl : q = 0 ∨ q = 1 := by omega
    ·repeat' (first | refine uA ?_ | refine uC ?_ | refine kcp rfl (fun hc => ?_) (fun hc => ?_) | refine kcn rfl (fun hc => ?_) (fun hc => ?_) | refine kcb rfl (fun hc => ?_) (fun hc => ?_) | refine kcc rfl (fun hc => ?_) (fun hc => ?_) | fail)
     all_goals first | (exfalso; omega) | skip
     refine AW.loopP (fun (p : Nat) => p ≤ 2) (fun (p : Nat) => (pu (pu (pu (pu (pu (pu (pu (pu (pu (fun _ => .any) 4 (.ptr 0 0)) 5 (.ptr 1 0)) 39 (.ln [tTn u0])) 40 (i64 1)) 41 (i64 (0 : Nat))) 9 (.ptr 2 0)) 57 (.t (.lst [tOp p1, tOp p0]))) 58 (i64 2)) 59 (i64 p))) (fun (p : Nat) => [.box 63 [i64 0, i64 0, i64 0, i64 0, i64 0, i64 0], .box 63 [i64 2, i64 1, i64 0, i64 1, i64 (fe (2 * p)), i64 2], .box 109 [i64 0, i64 0, .t (.lst [tOp p1, tOp p0])]]) (fun (p : Nat) => 2 - p) (0) ?_ ?_ ?_
     ·omega
     ·exact Wk.cq 3
     ·intro p hp
      obtain rfl | rfl | rfl : p = 0 ∨ p = 1 ∨ p = 2 := by omega
      ·repeat' (first | refine uA ?_ | refine uC ?_ | refine kcp rfl (fun hc => ?_) (fun hc => ?_) | refine kcn rfl (fun hc => ?_) (fun hc => ?_) | refine kcb rfl (fun hc => ?_) (fun hc => ?_) | refine kcc rfl (fun hc => ?_) (fun hc => ?_) | fail)
       all_goals first | (exfalso; omega) | (refine ⟨1, by omega, by omega, ?_⟩; (exact Wk.cq 3); done)
      ·repeat' (first | refine uA ?_ | refine uC ?_ | refine kcp rfl (fun hc => ?_) (fun hc => ?_) | refine kcn rfl (fun hc => ?_) (fun hc => ?_) | refine kcb rfl (fun hc => ?_) (fun hc => ?_) | refine kcc rfl (fun hc => ?_) (fun hc => ?_) | fail)
       all_goals first | (exfalso; omega) | (refine ⟨2, by omega, by omega, ?_⟩; (exact Wk.cq 3); done)
      ·repeat' (first | refine uA ?_ | refine uC ?_ | refine kcp rfl (fun hc => ?_) (fun hc => ?_) | refine kcn rfl (fun hc => ?_) (fun hc => ?_) | refine kcb rfl (fun hc => ?_) (fun hc => ?_) | refine kcc rfl (fun hc => ?_) (fun hc => ?_) | fail)
       all_goals first | (exfalso; omega) | (refine ⟨1, by omega, by omega, ?_⟩; (exact Wk.cq 2); done)
    ·repeat' (first | refine uA ?_ | refine uC ?_ | refine kcp rfl (fun hc => ?_) (fun hc => ?_) | refine kcn rfl (fun hc => ?_) (fun hc => ?_) | refine kcb rfl (fun hc => ?_) (fun hc => ?_) | refine kcc rfl (fun hc => ?_) (fun hc => ?_) | fail)
     all_goals first | (exfalso; omega) | ((first | exact Fin.q Try.results27 (.cons (.agg rfl rfl ud63 rfl inf63 (us := [_, _, _, _, _, _]) rfl rfl) .nil) [] | refine Fin.q Try.results27 (.cons (.agg rfl rfl ud63 rfl inf63 (us := [_, _, _, _, _, _]) rfl rfl) .nil) [] (hr := (.t ?_)) | refine Fin.mkv (rs := _) Try.results27 (.cons (.agg rfl rfl ud63 rfl inf63 (us := [_, _, _, _, _, _]) rfl rfl) .nil) [] (by decide) rfl ?_ ?_ ?_ <;> repeat' (skip; first | exact .nil | refine .cons rfl ?_ ?_ | refine .cons ?_ ?_ | refine .row ?_ | refine .rset ?_ | refine .box ?_ | exact .gone | refine .aggL ?_ | refine .tupL ?_ | refine .old rfl ?_ | refine .new rfl rfl rfl ?_ | exact .nl | exact .optr rfl | exact .nptr rfl rfl rfl | refine .t ?_ | exact .any _ | rfl)))
theorem awake32_c : Cd Try.prog 32 [] (bo true) [] := by
 have cS : Cd Try.prog 59 [.ln [tNt n1, tNt n2, tNt n3]] (.sl 0 0 2) [.row 0 116 4 [tSp ⟨1, 1, 3, 9⟩, tSp ⟨0, 1, 9, 0⟩]] := by
  have := spans_c [n1, n2, n3] (by decide)
  rw [show spansOf [n1, n2, n3] = [⟨1, 1, 3, 9⟩, ⟨0, 1, 9, 0⟩] by decide] at this
  exact this
 have cO : Cd Try.prog 60 [.agg ((tSp ⟨1, 1, 3, 9⟩).map .t), .agg ((tSp ⟨0, 1, 9, 0⟩).map .t)] (bo true) [] := by
  have := overlap_c ⟨1, 1, 3, 9⟩ ⟨0, 1, 9, 0⟩
  rw [show ovl ⟨1, 1, 3, 9⟩ ⟨0, 1, 9, 0⟩ = true by decide] at this
  exact this
 have cW : Cd Try.prog 61 [.ln [tSp ⟨1, 1, 3, 9⟩, tSp ⟨0, 1, 9, 0⟩]] (i64 2) [] := by
  have := width_c [⟨1, 1, 3, 9⟩, ⟨0, 1, 9, 0⟩] (by decide)
  rw [show widK [⟨1, 1, 3, 9⟩, ⟨0, 1, 9, 0⟩] [(⟨1, 1, 3, 9⟩ : DSpan), ⟨0, 1, 9, 0⟩].length = 2 by decide] at this
  exact this
 have cL : Cd Try.prog 62 [.ln [tSp ⟨1, 1, 3, 9⟩, tSp ⟨0, 1, 9, 0⟩]] (i64 0) [] := by
  have := slow_c [⟨1, 1, 3, 9⟩, ⟨0, 1, 9, 0⟩] (by decide)
  rw [show slowK [⟨1, 1, 3, 9⟩, ⟨0, 1, 9, 0⟩] [(⟨1, 1, 3, 9⟩ : DSpan), ⟨0, 1, 9, 0⟩].length = 0 by decide] at this
  exact this
 refine Cd.enter' Try.func32 rfl Try.ntmps32 rfl ?_
 repeat' (first | ((with_reducible refine kAL ?_); (first | (refine kL 3406 rfl ?_; first | (refine zkD 4 rfl ?_; refine uA ?_; (try refine uz 4 ?_)) | (refine zkD 5 rfl ?_; refine uA ?_; (try refine uz 5 ?_)) | (refine zkD 6 rfl ?_; refine uA ?_; (try refine uz 6 ?_))) | (refine kL 3566 rfl ?_; first | (refine zkD 9 rfl ?_; refine uA ?_; (try refine uz 9 ?_)) | (refine zkD 10 rfl ?_; refine uA ?_; (try refine uz 10 ?_))) | (refine kL 3439 rfl ?_; first | (refine A_lit (d := 11) rfl rfl 107 2 _ rfl ud107 inf111 (.cons rfl (.cons rfl .nil)) (els := [[_, _, _, _, _, _, _, _], [_, _, _, _, _, _, _, _]]) rfl (by first | exact qN) rfl (Nat.ne_of_beq_eq_false rfl) (Nat.le_of_ble_eq_true rfl) (Nat.le_of_ble_eq_true rfl) (.push qL qN) ?_; (try refine uf 1 11 ?_))) | (refine kL 1871 rfl ?_; first | refine A_lit rfl rfl 58 3 _ rfl ud58 inf106 (.cons rfl (.cons rfl (.cons rfl .nil))) (els := [[_, _, _, _, _, _, _, _, _, _, _, _, _], [_, _, _, _, _, _, _, _, _, _, _, _, _], [_, _, _, _, _, _, _, _, _, _, _, _, _]]) rfl (by first | exact qN) rfl (Nat.ne_of_beq_eq_false rfl) (Nat.le_of_ble_eq_true rfl) (Nat.le_of_ble_eq_true rfl) (.push qL qN) ?_) | (refine kL 1903 rfl ?_; first | refine A_lit rfl rfl 59 1 _ rfl ud59 inf109 (.cons rfl .nil) (els := [[_, _, _]]) rfl (by first | exact qN) rfl (Nat.ne_of_beq_eq_false rfl) (Nat.le_of_ble_eq_true rfl) (Nat.le_of_ble_eq_true rfl) (.push qL qN) ?_) | (refine kL 874 rfl ?_; first | refine uK (of_c) ?_) | (refine kL 1898 rfl ?_; first | refine uK (cS) ?_) | refine uA ?_)) | ((with_reducible refine kRG ?_); (first | (refine kR 2025 rfl ?_; first | refine R_eqs rfl rfl 63 63 _ _ rfl rfl rfl (by kernel_rfl) (fun w => eqs63 9998 _ _ _ _ _ _ _ _ _ _ _ _ w) (by first | exact decide_eq_true (by first | (simp only [and_true]; omega) | (simp only [and_true]; done) | omega) | exact decide_eq_false (by first | (simp only [and_true]; omega) | (simp only [and_true]; done) | omega) | rfl) ?_) | (refine kR 1930 rfl ?_; first | (first | refine uQ (cO) 0 ?_ | refine uQ (cO) 1 ?_ | refine uQ (cO) 2 ?_ | refine uQ (cO) 3 ?_ | refine uQ (cO) 4 ?_ | refine uQ (cO) 5 ?_ | refine uQ (cO) 6 ?_ | refine uQ (cO) 7 ?_ | refine uQ (cO) 8 ?_ | refine uQ (cO) 9 ?_ | refine uQ (cO) 10 ?_ | refine uQ (cO) 11 ?_ | refine uQ (cO) 12 ?_ | refine uQ (cO) 13 ?_)) | (refine kR 1962 rfl ?_; first | (first | refine uQ (cW) 0 ?_ | refine uQ (cW) 1 ?_ | refine uQ (cW) 2 ?_ | refine uQ (cW) 3 ?_ | refine uQ (cW) 4 ?_ | refine uQ (cW) 5 ?_ | refine uQ (cW) 6 ?_ | refine uQ (cW) 7 ?_ | refine uQ (cW) 8 ?_ | refine uQ (cW) 9 ?_ | refine uQ (cW) 10 ?_ | refine uQ (cW) 11 ?_ | refine uQ (cW) 12 ?_ | refine uQ (cW) 13 ?_)) | (refine kR 1994 rfl ?_; first | (first | refine uQ (cL) 0 ?_ | refine uQ (cL) 1 ?_ | refine uQ (cL) 2 ?_ | refine uQ (cL) 3 ?_ | refine uQ (cL) 4 ?_ | refine uQ (cL) 5 ?_ | refine uQ (cL) 6 ?_ | refine uQ (cL) 7 ?_ | refine uQ (cL) 8 ?_ | refine uQ (cL) 9 ?_ | refine uQ (cL) 10 ?_ | refine uQ (cL) 11 ?_ | refine uQ (cL) 12 ?_ | refine uQ (cL) 13 ?_)) | refine uR ?_)) | refine uC ?_ | refine kcp rfl (fun hc => ?_) (fun hc => ?_) | refine kcn rfl (fun hc => ?_) (fun hc => ?_) | refine kcb rfl (fun hc => ?_) (fun hc => ?_) | refine kcc rfl (fun hc => ?_) (fun hc => ?_) | refine AW.drawU (id := 4) mixed 0 qR ?_ | fail)
 all_goals ((first | exact Fin.q Try.results32 (.cons (.tmp rfl) .nil) [] | refine Fin.q Try.results32 (.cons (.tmp rfl) .nil) [] (hr := (.t ?_)) | refine Fin.mkv (rs := _) Try.results32 (.cons (.tmp rfl) .nil) [] (by decide) rfl ?_ ?_ ?_ <;> repeat' (skip; first | exact .nil | refine .cons rfl ?_ ?_ | refine .cons ?_ ?_ | refine .row ?_ | refine .rset ?_ | refine .box ?_ | exact .gone | refine .aggL ?_ | refine .tupL ?_ | refine .old rfl ?_ | refine .new rfl rfl rfl ?_ | exact .nl | exact .optr rfl | exact .nptr rfl rfl rfl | refine .t ?_ | exact .any _ | rfl)))
end
section
abbrev srtL (l : List Int) : List Int := l.mergeSort fun x y => decide (x ≤ y)
theorem sort_io {P : Program} {f : FuncId}
  (hs : ∀ (blk cap : Nat) (zs : List Int) (w : World), Go.Sort.Holds (Value.int .i64) w blk 0 zs.toArray → blk < w.heap.size → zs.length < 4611686018427387904 →
   Calls P f #[.slice (some ⟨blk, 0, none⟩) zs.length cap] w fun e w' => e = .returned (.tuple #[]) ∧ ∃ n os, w' = Go.Sort.grow (Go.Sort.putRow (Value.int .i64) (Go.Sort.ahead w n) blk 0 (zs.mergeSort fun x y => decide (x ≤ y)).toArray) os)
  (h0 : ∀ (p : Option Addr) (cap : Nat) (w : World), Calls P f #[.slice p 0 cap] w fun e w' => e = .returned (.tuple #[]) ∧ w' = w)
  {k : Nat} {E : TypeId} (l : List Int) (hl : l.length < 4611686018427387904) : Cio P f [.sl 0 k l.length] [.row k E 1 (l.map tI)] (.tup []) [.row k E 1 ((srtL l).map tI)] := by
 intro e vs hH hrep hdom hav
 have ok : Ok e [.row k E 1 (l.map tI)] e.W e.ρ e.Z e.Y := ⟨hrep, hdom, fun b h => .inl h, fun _ h => h, fun _ h => h, fun i q h => ⟨by rw [← hH]; exact h, rfl⟩, rfl, rfl, rfl, Nat.le_refl _, fun _ _ => rfl⟩
 obtain ⟨v, rfl⟩ : ∃ v, vs = [v] := by
  have := hav.len
  cases vs with
  | nil => simp at this
  | cons a t => cases t with
   | nil => exact ⟨a, rfl⟩
   | cons b t => simp at this
 have hv := hav.at_ 0 _ _ rfl rfl
 obtain ⟨h1, xs, h2, h3⟩ := hrep.obs 0 _ rfl
 generalize hq : AV.sl 0 k l.length = q at hv
 cases hv <;> cases hq
 rename_i hk hc hz
 rw [List.length_map] at h3
 by_cases hn : l = []
 ·subst hn
  refine (h0 _ _ _).mono ?_
  rintro en w' ⟨rfl, rfl⟩
  refine ⟨.tuple #[], .tup [], _, e.ρ, e.Z, e.Y, rfl, ⟨rfl, ?_⟩, ok, .tup (us := []) rfl (fun j x u h => by simp at h)⟩
  simp [srtL]
 ·have hpos : 0 < l.length := List.length_pos_iff.2 hn
  rcases h3 with ⟨_, hn0, _⟩ | ⟨hcp, hown⟩
  ·omega
  have hown2 := hown
  rcases hown.2 with ⟨he, hn0⟩ | ⟨g, cap, cur, he, hbg, hg, hnc, hcm, hcs, htake⟩
  ·omega
  simp only [Value.slice.injEq] at he
  obtain ⟨ha, _, hcc⟩ := he
  rw [ha, hcc]
  have hsz : l.length ≤ cur.size := by rw [hcs]; omega
  have hxs : xs = cur.toList.take (l.length * 1) := htake.symm
  have hx : ∀ (j : Nat) (hj : j < l.length), cur[j]? = some (.int .i64 l[j]) := by
   intro j hj
   obtain ⟨u, q1, q2⟩ := h2.cell (i := j) (cs := tI l[j]) (by rw [List.getElem?_map, List.getElem?_eq_getElem hj]; rfl) (j := 0) (x := .v (.int .i64 l[j])) rfl
   cases q2
   rw [hxs, List.getElem?_take, if_pos (by omega)] at q1
   rw [← q1, Nat.mul_one, Nat.add_zero, Array.getElem?_toList]
  have hlt : g < e.W.heap.size := by
   rcases Nat.lt_or_ge g e.W.heap.size with h | h
   ·exact h
   ·rw [Array.getElem?_eq_none h] at hg; cases hg
  have hH2 : Go.Sort.Holds (Value.int .i64) e.W g 0 l.toArray := by
   intro j hj
   have hj' : j < l.length := by simpa using hj
   constructor
   ·unfold World.cell?
    simp only [hg, Option.isSome_none, Bool.false_eq_true, if_false, Nat.zero_add, hx j hj']
    rw [getElem!_pos l.toArray j hj]; simp
   ·unfold World.frozen?
    simp [hg]
  refine (hs g cap l e.W hH2 hlt hl).mono ?_
  rintro en w' ⟨rfl, n, os, rfl⟩
  have hsl : (srtL l).length = l.length := List.length_mergeSort l
  generalize hw : Go.Sort.grow (Go.Sort.putRow (Value.int .i64) (Go.Sort.ahead e.W n) g 0 (l.mergeSort fun x y => decide (x ≤ y)).toArray) os = w'
  have hgrow : ∀ b, b < e.W.heap.size → b ≠ g → w'.heap[b]? = e.W.heap[b]? := by
   intro b hb hne
   subst hw
   unfold Go.Sort.grow Go.Sort.putRow Go.Sort.mapBlock Go.Sort.ahead
   dsimp only
   rw [Array.getElem?_append_left (by simpa using hb), Array.getElem?_modify, if_neg (Ne.symm hne)]
  have hgg : w'.heap[g]? = some (.cells (Go.Sort.putCells (Value.int .i64) 0 (srtL l).toArray cur) E (0, 0)) := by
   subst hw
   unfold Go.Sort.grow Go.Sort.putRow Go.Sort.mapBlock Go.Sort.ahead
   dsimp only
   rw [Array.getElem?_append_left (by simpa using hlt), Array.getElem?_modify, if_pos rfl, hg]
   rfl
  have hsize : e.W.heap.size ≤ w'.heap.size := by subst hw; simp [Go.Sort.grow, Go.Sort.putRow, Go.Sort.mapBlock, Go.Sort.ahead]
  have h3 : Same3 e.W w' := by subst hw; exact ⟨rfl, rfl, rfl⟩
  have hblk : (Ob.row k E 1 (l.map tI)).blk e.ρ 0 = some g := by
   show (if (e.ρ 0 k).c = 0 then none else (e.ρ 0 k).a.map (·.block)) = some g
   rw [if_neg (by omega), ha]; rfl
  have hcells : (Go.Sort.putCells (Value.int .i64) 0 (srtL l).toArray cur).toList.take (l.length * 1) = (srtL l).map (Value.int .i64) := by
   apply List.ext_getElem?
   intro j
   rw [List.getElem?_take, Array.getElem?_toList]
   unfold Go.Sort.putCells
   rw [Array.getElem?_mapIdx, List.getElem?_map]
   by_cases hj : j < l.length
   ·have hj2 : j < (srtL l).length := by omega
    rw [if_pos (by omega), hx j hj, Option.map_some, if_pos (by simp; omega), Nat.sub_zero, getElem!_pos (srtL l).toArray j (by simpa using hj2), List.getElem?_eq_getElem hj2]
    simp
   ·rw [if_neg (by omega), List.getElem?_eq_none (by omega)]; rfl
  have hel : Elems (Frz w' e.Z) 1 ((srtL l).map tI) ((srtL l).map (Value.int .i64)) := by
   refine ⟨by simp, fun cs hcs => by obtain ⟨x, _, rfl⟩ := List.mem_map.1 hcs; rfl, fun i cs j x u hi hj hu => ?_⟩
   rw [List.getElem?_map] at hi
   cases hs' : (srtL l)[i]? with
   | none => rw [hs'] at hi; cases hi
   | some a =>
    rw [hs'] at hi
    cases hi
    cases j with
    | succ j => simp [tI] at hj
    | zero =>
     cases hj
     rw [Nat.mul_one, Nat.add_zero, List.getElem?_map, hs'] at hu
     cases hu
     exact .v rfl
  have ok' := ok.turn (i := 0) (o := .row k E 1 (l.map tI)) (o' := .row k E 1 ((srtL l).map tI)) (ρ' := e.ρ) (w' := w') rfl (Nat.le_refl _) (fun _ _ _ => rfl) h3 hsize
   (fun b hb hne => hgrow b hb (fun he => hne (by rw [hblk, he]))) ⟨h1, _, hel, by
    rw [List.length_map, hsl, ha, hcc]
    refine .inr ⟨by omega, ⟨by simp [hsl], .inr ⟨g, cap, _, rfl, hbg, hgg, hnc, hcm, ?_, ?_⟩⟩⟩
    ·simp [Go.Sort.putCells, hcs]
    ·exact hcells⟩ (fun b hb => .inl hb)
  exact ⟨.tuple #[], .tup [], _, e.ρ, e.Z, e.Y, rfl, ⟨rfl, rfl⟩, ok', .tup (us := []) rfl (fun j x u h => by simp at h)⟩
end
section
def isK (k : Int) (x : DNote) : Bool := decide (x.kind = k)
def cntN (l : List DNote) (k : Int) (i : Nat) : Nat := ((l.take i).filter (isK k)).length
theorem cntN_next {l : List DNote} {k : Int} {i : Nat} {a : DNote} (h : l[i]? = some a) : cntN l k (i + 1) = if a.kind = k then cntN l k i + 1 else cntN l k i := by
 unfold cntN
 rw [List.take_add_one, h, List.filter_append, List.length_append]
 by_cases g : a.kind = k
 ·rw [if_pos g]; simp [isK, g]
 ·rw [if_neg g]; simp [isK, g]
theorem cntN_le (l : List DNote) (k : Int) (i : Nat) : cntN l k i ≤ i := by
 have := List.length_filter_le (isK k) (l.take i)
 have h2 : (l.take i).length ≤ i := by rw [List.length_take]; omega
 unfold cntN; omega
def helpO (t h : Int) (o : DOp) : Int := if o.thread ≠ t then IntKind.i64.wrap (h + 1) else h
def helpI (x : DTurn) (h : Int) (j : Nat) : Int := (x.ops.take j).foldl (helpO x.thread) h
def helpK (l : List DTurn) (i : Nat) : Int := (l.take i).foldl (fun h x => helpI x h x.ops.length) 0
def batK (l : List DTurn) (i : Nat) : Int := (l.take i).foldl (fun m x => max m (x.ops.length : Int)) 0
theorem helpI_next {x : DTurn} {h : Int} {j : Nat} {o : DOp} (ho : x.ops[j]? = some o) : helpI x h (j + 1) = helpO x.thread (helpI x h j) o := by
 unfold helpI; rw [List.take_add_one, ho, List.foldl_append]; rfl
theorem helpK_next {l : List DTurn} {i : Nat} {x : DTurn} (hx : l[i]? = some x) : helpK l (i + 1) = helpI x (helpK l i) x.ops.length := by
 unfold helpK; rw [List.take_add_one, hx, List.foldl_append]; rfl
theorem batK_next {l : List DTurn} {i : Nat} {x : DTurn} (hx : l[i]? = some x) : batK l (i + 1) = max (batK l i) (x.ops.length : Int) := by
 unfold batK; rw [List.take_add_one, hx, List.foldl_append]; rfl
def isC (e : Nat) (x : DNote) : Bool := decide (x.kind = 3 ∧ x.result.code = (e : Int))
def cntC (l : List DNote) (e i : Nat) : Nat := ((l.take i).filter (isC e)).length
def cntI (l : List DNote) (i e : Nat) : Int := (cntC l e i : Int)
def codL (l : List DNote) (i : Nat) : List Int := (List.range 18).map (cntI l i)
theorem cntC_next {l : List DNote} {e i : Nat} {a : DNote} (h : l[i]? = some a) : cntC l e (i + 1) = if a.kind = 3 ∧ a.result.code = (e : Int) then cntC l e i + 1 else cntC l e i := by
 unfold cntC
 rw [List.take_add_one, h, List.filter_append, List.length_append]
 by_cases g : a.kind = 3 ∧ a.result.code = (e : Int)
 ·rw [if_pos g]; simp [isC, g]
 ·rw [if_neg g]; simp only [Option.toList_some, List.filter_cons, isC, decide_eq_false g]; simp
theorem cntC_le (l : List DNote) (e i : Nat) : cntC l e i ≤ i := by
 have := List.length_filter_le (isC e) (l.take i)
 have h2 : (l.take i).length ≤ i := by rw [List.length_take]; omega
 unfold cntC; omega
theorem codL_len (l : List DNote) (i : Nat) : (codL l i).length = 18 := by unfold codL; rw [List.length_map, List.length_range]
theorem codL_get (l : List DNote) (i : Nat) {e : Nat} (h : e < 18) : (codL l i)[e]? = some (cntI l i e) := by unfold codL; rw [List.getElem?_map, List.getElem?_range h]; rfl
theorem codL_zero (l : List DNote) : codL l 0 = List.replicate 18 0 := rfl
theorem codL_no {l : List DNote} {i : Nat} {a : DNote} (h : l[i]? = some a) (hn : ¬ (a.kind = 3 ∧ 0 ≤ a.result.code ∧ a.result.code < 18)) : codL l (i + 1) = codL l i := by
 unfold codL
 apply List.map_congr_left
 intro e he
 have := List.mem_range.1 he
 unfold cntI
 rw [cntC_next h, if_neg (by omega)]
theorem codL_yes {l : List DNote} {i e : Nat} {a : DNote} (h : l[i]? = some a) (hk : a.kind = 3) (hc : a.result.code = (e : Int)) (he : e < 18) : codL l (i + 1) = (codL l i).set e (cntI l i e + 1) := by
 apply List.ext_getElem?
 intro j
 rw [List.getElem?_set, codL_len]
 by_cases hj : j < 18
 ·rw [codL_get _ _ hj, codL_get _ _ hj]
  unfold cntI
  rw [cntC_next h]
  by_cases g : e = j
  ·subst g
   rw [if_pos ⟨hk, hc⟩, if_pos rfl, if_pos he]; rfl
  ·rw [if_neg (by omega), if_neg g]
 ·rw [List.getElem?_eq_none (by rw [codL_len]; omega), if_neg (by omega), List.getElem?_eq_none (by rw [codL_len]; omega)]
def busS (O : List Int) (a : DNote) : List Int := if a.kind = 1 ∧ a.thread ∉ O then O ++ [a.thread] else O
def busD (l : List DNote) (i : Nat) : List Int := (l.take i).foldl busS []
theorem busD_next {l : List DNote} {i : Nat} {a : DNote} (h : l[i]? = some a) : busD l (i + 1) = busS (busD l i) a := by unfold busD; rw [List.take_add_one, h, List.foldl_append]; rfl
def plcI (O : List Int) (t : Int) : Nat := (O.takeWhile fun x => decide (x < t)).length
def insI (O : List Int) (t : Int) : List Int := if O[plcI O t]? = some t then O else O.take (plcI O t) ++ [t] ++ O.drop (plcI O t)
def busT (O : List Int) (a : DNote) : List Int := if a.kind = 1 then insI O a.thread else O
def busR (l : List DNote) (i : Nat) : List Int := (l.take i).foldl busT []
theorem busR_next {l : List DNote} {i : Nat} {a : DNote} (h : l[i]? = some a) : busR l (i + 1) = busT (busR l i) a := by unfold busR; rw [List.take_add_one, h, List.foldl_append]; rfl
theorem busS_mem {O : List Int} {a : DNote} {x : Int} : x ∈ busS O a ↔ x ∈ O ∨ (a.kind = 1 ∧ a.thread = x) := by
 unfold busS
 by_cases h : a.kind = 1 ∧ a.thread ∉ O
 ·rw [if_pos h]; simp only [List.mem_append, List.mem_singleton]
  constructor
  ·rintro (q | rfl); exact .inl q; exact .inr ⟨h.1, rfl⟩
  ·rintro (q | ⟨_, rfl⟩); exact .inl q; exact .inr rfl
 ·rw [if_neg h]
  constructor
  ·exact .inl
  ·rintro (q | ⟨q1, rfl⟩)
   ·exact q
   ·by_cases g : a.thread ∈ O
    ·exact g
    ·exact absurd ⟨q1, g⟩ h
theorem busS_nd {O : List Int} {a : DNote} (h : O.Nodup) : (busS O a).Nodup := by
 unfold busS
 split
 ·rename_i g
  rw [List.nodup_append]
  exact ⟨h, by simp, fun x hx y hy e => by rw [List.mem_singleton] at hy; subst e hy; exact g.2 hx⟩
 ·exact h
theorem takeW_split (O : List Int) (t : Int) (hs : O.Pairwise (· < ·)) : O.take (plcI O t) = O.filter (fun x => decide (x < t)) ∧ (∀ x ∈ O.take (plcI O t), x < t) ∧ (∀ x ∈ O.drop (plcI O t), t ≤ x) := by
 induction O with
 | nil => exact ⟨rfl, fun x h => by simp at h, fun x h => by simp at h⟩
 | cons b O ih =>
  rw [List.pairwise_cons] at hs
  obtain ⟨i1, i2, i3⟩ := ih hs.2
  by_cases hb : b < t
  ·have e : plcI (b :: O) t = plcI O t + 1 := by unfold plcI; rw [List.takeWhile_cons, if_pos (decide_eq_true hb)]; rfl
   rw [e, List.take_succ_cons, List.drop_succ_cons]
   refine ⟨by rw [List.filter_cons, if_pos (decide_eq_true hb), i1], fun x hx => ?_, i3⟩
   rcases List.mem_cons.1 hx with rfl | hx
   ·exact hb
   ·exact i2 x hx
  ·have e : plcI (b :: O) t = 0 := by unfold plcI; rw [List.takeWhile_cons, if_neg (by simpa using hb)]; rfl
   rw [e, List.take_zero, List.drop_zero]
   have hall : ∀ x ∈ b :: O, t ≤ x := fun x hx => by
    rcases List.mem_cons.1 hx with rfl | hx
    ·omega
    ·have := hs.1 x hx; omega
   refine ⟨?_, fun x h => by simp at h, hall⟩
   symm
   rw [List.filter_eq_nil_iff]
   intro x hx
   have := hall x hx
   simp; omega
theorem plcI_le (O : List Int) (t : Int) : plcI O t ≤ O.length := by unfold plcI; exact (List.takeWhile_prefix _).length_le
theorem insI_mem {O : List Int} {t x : Int} : x ∈ insI O t ↔ x ∈ O ∨ t = x := by
 unfold insI
 split
 ·rename_i g
  have := List.mem_of_getElem? g
  constructor
  ·exact .inl
  ·rintro (q | rfl); exact q; exact this
 ·have e : O.take (plcI O t) ++ O.drop (plcI O t) = O := List.take_append_drop _ _
  simp only [List.mem_append, List.mem_singleton]
  constructor
  ·rintro ((q | rfl) | q)
   ·exact .inl (List.mem_of_mem_take q)
   ·exact .inr rfl
   ·exact .inl (List.mem_of_mem_drop q)
  ·rintro (q | rfl)
   ·rw [← e, List.mem_append] at q
    rcases q with q | q
    ·exact .inl (.inl q)
    ·exact .inr q
   ·exact .inl (.inr rfl)
theorem insI_srt {O : List Int} {t : Int} (hs : O.Pairwise (· < ·)) : (insI O t).Pairwise (· < ·) := by
 unfold insI
 split
 ·exact hs
 ·rename_i g
  obtain ⟨_, h2, h3⟩ := takeW_split O t hs
  have hne : ∀ x ∈ O.drop (plcI O t), t < x := by
   intro x hx
   have h4 := h3 x hx
   rcases Int.lt_or_eq_of_le h4 with h5 | h5
   ·exact h5
   ·subst h5
    cases hd : O.drop (plcI O t) with
    | nil => rw [hd] at hx; cases hx
    | cons b r =>
     have hb : O[plcI O t]? = some b := by rw [← Nat.add_zero (plcI O t), ← List.getElem?_drop, hd]; rfl
     have hsd : (O.drop (plcI O t)).Pairwise (· < ·) := hs.sublist (List.drop_sublist _ _)
     rw [hd, List.pairwise_cons] at hsd
     have hbt := h3 b (by rw [hd]; exact List.mem_cons_self)
     rw [hd] at hx
     rcases List.mem_cons.1 hx with rfl | hx
     ·exact absurd hb g
     ·have := hsd.1 _ hx; omega
  rw [List.append_assoc, List.pairwise_append]
  refine ⟨hs.sublist (List.take_sublist _ _), ?_, ?_⟩
  ·rw [List.singleton_append, List.pairwise_cons]
   exact ⟨hne, hs.sublist (List.drop_sublist _ _)⟩
  ·intro x hx y hy
   have hx2 := h2 x hx
   rw [List.singleton_append] at hy
   rcases List.mem_cons.1 hy with rfl | hy
   ·exact hx2
   ·have := h3 y hy; omega
theorem srt_eq : ∀ {a b : List Int}, a.Pairwise (· < ·) → b.Pairwise (· < ·) → (∀ x, x ∈ a ↔ x ∈ b) → a = b
 | [], [], _, _, _ => rfl
 | [], y :: b, _, _, h => absurd ((h y).2 List.mem_cons_self) (by simp)
 | x :: a, [], _, _, h => absurd ((h x).1 List.mem_cons_self) (by simp)
 | x :: a, y :: b, ha, hb, h => by
  rw [List.pairwise_cons] at ha hb
  have hxy : x = y := by
   rcases List.mem_cons.1 ((h x).1 List.mem_cons_self) with e | hx
   ·exact e
   ·rcases List.mem_cons.1 ((h y).2 List.mem_cons_self) with e | hy
    ·exact e.symm
    ·have h1 := ha.1 y hy
     have h2 := hb.1 x hx
     omega
  subst hxy
  rw [srt_eq ha.2 hb.2 fun z => ⟨fun hz => ?_, fun hz => ?_⟩]
  ·rcases List.mem_cons.1 ((h z).1 (List.mem_cons_of_mem _ hz)) with e | q
   ·have := ha.1 z hz; omega
   ·exact q
  ·rcases List.mem_cons.1 ((h z).2 (List.mem_cons_of_mem _ hz)) with e | q
   ·have := hb.1 z hz; omega
   ·exact q
theorem srtL_mem {l : List Int} {x : Int} : x ∈ srtL l ↔ x ∈ l := List.mem_mergeSort
theorem srtL_srt {l : List Int} (h : l.Nodup) : (srtL l).Pairwise (· < ·) := by
 have h1 : (srtL l).Pairwise (fun a b => decide (a ≤ b) = true) := List.pairwise_mergeSort (fun a b c h1 h2 => by simp at *; omega) (fun a b => by simp; omega) l
 have h2 : (srtL l).Nodup := (List.mergeSort_perm l _).nodup_iff.2 h
 have h3 := List.Pairwise.and h1 h2
 exact h3.imp fun ⟨q1, q2⟩ => by have := of_decide_eq_true q1; omega
theorem bus_inv (l : List DNote) : ∀ i, i ≤ l.length → (busD l i).Nodup ∧ (busR l i).Pairwise (· < ·) ∧ ∀ x, x ∈ busD l i ↔ x ∈ busR l i
 | 0, _ => ⟨List.nodup_nil, List.Pairwise.nil, fun x => Iff.rfl⟩
 | i + 1, h => by
  obtain ⟨h1, h2, h3⟩ := bus_inv l i (by omega)
  have ha : l[i]? = some l[i] := List.getElem?_eq_getElem (by omega)
  rw [busD_next ha, busR_next ha]
  refine ⟨busS_nd h1, ?_, fun x => ?_⟩
  ·unfold busT; split
   ·exact insI_srt h2
   ·exact h2
  ·rw [busS_mem]
   unfold busT
   by_cases hk : l[i].kind = 1
   ·rw [if_pos hk, insI_mem, h3]; simp [hk]
   ·rw [if_neg hk, h3]; simp [hk]
theorem bus_eq (l : List DNote) : srtL (busD l l.length) = busR l l.length := by
 obtain ⟨h1, h2, h3⟩ := bus_inv l l.length (Nat.le_refl _)
 exact srt_eq (srtL_srt h1) h2 fun x => srtL_mem.trans (h3 x)
theorem busD_len (l : List DNote) : ∀ i, (busD l i).length ≤ i
 | 0 => Nat.le_refl _
 | i + 1 => by
  have := busD_len l i
  cases ha : l[i]? with
  | none => unfold busD at *; rw [List.take_add_one, ha]; simp; omega
  | some a => rw [busD_next ha]; unfold busS; split <;> simp <;> omega
theorem busR_len (l : List DNote) : ∀ i, (busR l i).length ≤ i
 | 0 => Nat.le_refl _
 | i + 1 => by
  have := busR_len l i
  cases ha : l[i]? with
  | none => unfold busR at *; rw [List.take_add_one, ha]; simp; omega
  | some a =>
   rw [busR_next ha]; unfold busT insI
   have := plcI_le (busR l i) a.thread
   split
   ·split
    ·omega
    ·simp only [List.length_append, List.length_take, List.length_drop, List.length_cons, List.length_nil]; omega
   ·omega
end
section
def ixI : List Int → Int → Int
 | [], _ => -1
 | a :: l, x => if a = x then 0 else if ixI l x < 0 then -1 else ixI l x + 1
theorem ixI_at : ∀ (l : List Int) (x : Int) (j : Nat), (∀ q, q < j → l.getD q 0 ≠ x) → l[j]? = some x → ixI l x = j
 | [], _, _, _, h => by simp at h
 | a :: l, x, 0, _, h => by simp at h; simp [ixI, h]
 | a :: l, x, j + 1, h0, h => by
  have h1 := ixI_at l x j (fun q hq => by have := h0 (q + 1) (by omega); simpa using this) (by simpa using h)
  have h2 : a ≠ x := by have := h0 0 (by omega); simpa using this
  unfold ixI
  rw [if_neg h2, if_neg (by omega), h1]; rfl
theorem ixI_none : ∀ (l : List Int) (x : Int), (∀ q, q < l.length → l.getD q 0 ≠ x) → ixI l x = -1
 | [], _, _ => rfl
 | a :: l, x, h0 => by
  have h1 := ixI_none l x (fun q hq => by have := h0 (q + 1) (by simp; omega); simpa using this)
  have h2 : a ≠ x := by have := h0 0 (by simp); simpa using this
  unfold ixI
  rw [if_neg h2, if_pos (by omega)]
theorem ixI_mem : ∀ (l : List Int) (x : Int), 0 ≤ ixI l x ↔ x ∈ l
 | [], x => by simp [ixI]
 | a :: l, x => by
  have := ixI_mem l x
  unfold ixI
  by_cases h : a = x
  ·simp [h]
  ·rw [if_neg h]
   have h' : x ≠ a := fun e => h e.symm
   simp only [List.mem_cons, h', false_or]
   by_cases h2 : ixI l x < 0
   ·rw [if_pos h2, ← this]; omega
   ·rw [if_neg h2, ← this]; omega
end
section
attribute [local irreducible] AL AW RG Fin C Cd Cio thenQ blockQ retQ
set_option maxRecDepth 100000
theorem indexI_c (l : List Int) (x : Int) (hl : l.length ≤ 1152921504606846976) : Cd Try.prog 73 [.ln (l.map tI), i64 x] (i64 (ixI l x)) [] := by
 have h1 : (l.map tI).length = l.length := List.length_map _
 refine Cd.enter' Try.func73 rfl Try.ntmps73 rfl ?_
 repeat' (first | refine uA ?_ | refine uC ?_ | fail)
 refine AW.loopP (fun (j : Nat) => j ≤ l.length ∧ ∀ q, q < j → l.getD q 0 ≠ x) (fun (j : Nat) => (pu (pu (pu (pu (fun _ => .any) 0 (.ln (l.map tI))) 1 (i64 x)) 7 (i64 (l.map tI).length)) 8 (i64 j))) (fun (j : Nat) => []) (fun (j : Nat) => l.length - j) (0) ?_ ?_ ?_
 ·exact ⟨Nat.zero_le _, fun q hq => by omega⟩
 ·exact Wk.cq 0
 ·rintro j ⟨h2, h3⟩
  by_cases hj : j < l.length
  ·obtain ⟨a, ha⟩ : ∃ a, l[j]? = some a := ⟨_, List.getElem?_eq_getElem hj⟩
   repeat' (first | refine uA ?_ | refine uC ?_ | refine kcp rfl (fun hc => ?_) (fun hc => ?_) | fail)
   all_goals first | (exfalso; omega) | skip
   ·refine Fin.q Try.results73 (.cons (.tmp rfl) .nil) [] (hr := (.t ?_))
    rw [ixI_at l x j h3 (by rw [ha, hc])]
   ·refine ⟨j + 1, ⟨by omega, fun q hq => ?_⟩, by omega, ?_⟩
    ·by_cases e : q = j
     ·subst e; rw [List.getD_eq_getElem?_getD, ha]; exact fun e => hc e.symm
     ·exact h3 q (by omega)
    ·exact Wk.cq 0
  ·repeat' (first | refine uA ?_ | refine uC ?_ | fail)
   all_goals first | (exfalso; omega) | (refine Fin.q Try.results73 (.cons (.tmp rfl) .nil) [] (hr := (.t ?_)))
   rw [ixI_none l x fun q hq => h3 q (by omega)]
theorem containsI_c (l : List Int) (x : Int) (hl : l.length ≤ 1152921504606846976) : Cd Try.prog 51 [.ln (l.map tI), i64 x] (bo (decide (x ∈ l))) [] := by
 have h1 := ixI_mem l x
 refine Cd.enter' Try.func51 rfl Try.ntmps51 rfl ?_
 repeat' (first | ((with_reducible refine kAL ?_); (first | (refine kL 2346 rfl ?_; first | refine uK (indexI_c l x hl) ?_) | refine uA ?_)) | refine uC ?_ | fail)
 all_goals (refine Fin.q Try.results51 (.cons (.tmp rfl) .nil) [] (hr := (.t ?_)))
 all_goals (congr 2; rw [decide_eq_decide]; omega)
end
end Go.Proofs.Ytnibnbcmnaflmaa
