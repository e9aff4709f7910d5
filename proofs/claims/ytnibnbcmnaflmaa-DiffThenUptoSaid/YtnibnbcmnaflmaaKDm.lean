/- Joined: XTDiffB, XTAbb, XTShape, XTPlain, XTBit2, XTPack, XTCode, XTOkW, XTCases, XTPWaits, XTWords, XTLaw39, XTSmall, XTFrzA. -/
import Derived.Test.YtnibnbcmnaflmaaKDh
import Derived.Test.YtnibnbcmnaflmaaKDk
import Derived.Test.YtnibnbcmnaflmaaKDd
import Derived.Test.YtnibnbcmnaflmaaKDe
import Derived.Test.YtnibnbcmnaflmaaKDj
import Derived.Test.YtnibnbcmnaflmaaKDc
import Derived.Laws.BitsAllLaws
import Derived.Test.YtnibnbcmnaflmaaKDl
namespace Go.Proofs.Ytnibnbcmnaflmaa
open Go.RowKit
set_option linter.unusedVariables false
set_option linter.unusedSimpArgs false
set_option linter.unnecessarySimpa false
set_option maxRecDepth 100000
set_option maxHeartbeats 64000000
section
attribute [local irreducible] AL AW RG Fin C Cd Cio thenQ blockQ retQ
set_option maxRecDepth 100000
def apA (l : List Int) (xs : List DXg) : AV := if apE l xs xs.length = 0 then .tup [.t (.lst ((apC l xs xs.length).map tU)), i64 0] else .tup [.nl, i64 (apE l xs xs.length)]
theorem cloneW_c (l : List Int) (h : l.length ≤ 17592186044415) : Cd Try.prog 63 [.ln (l.map tU)] (.sl 0 0 l.length) [.row 0 80 1 (l.map tU)] := by
 refine Cd.enter' Try.func63 rfl Try.ntmps63 rfl ?_
 repeat' (first | ((with_reducible refine kAL ?_); (first | (refine kL 2153 rfl ?_; first | refine A_eqnil rfl rfl 67 _ _ rfl ud67 rfl (fun b hb => ?_)) | (refine kL 12 rfl ?_; first | refine A_append_nlsub rfl rfl _ _ 67 rfl ud67 inf80 rfl rfl rfl rfl (by (try simp only [List.length_map, List.length_append, List.length_cons, List.length_nil]); omega) qB qB List.map_drop.symm (.push qL qN) ?_) | refine uA ?_)) | refine uC ?_ | refine kcp rfl (fun hc => ?_) (fun hc => ?_) | refine kcn rfl (fun hc => ?_) (fun hc => ?_) | refine kcb rfl (fun hc => ?_) (fun hc => ?_) | refine kcc rfl (fun hc => ?_) (fun hc => ?_) | fail)
 ·have hl : l = [] := by simpa using hb hc
  subst hl
  refine Fin.wk (Wk.own 2 rfl 80 1 (.push rfl rfl)) ?_
  (first | exact Fin.q Try.results63 (.cons (.tmp rfl) .nil) [0] | refine Fin.q Try.results63 (.cons (.tmp rfl) .nil) [0] (hr := (.t ?_)) | refine Fin.mkv (rs := _) Try.results63 (.cons (.tmp rfl) .nil) [0] (by decide) rfl ?_ ?_ ?_ <;> repeat' (skip; first | exact .nil | refine .cons rfl ?_ ?_ | refine .cons ?_ ?_ | refine .row ?_ | refine .rset ?_ | refine .box ?_ | exact .gone | refine .aggL ?_ | refine .tupL ?_ | refine .old rfl ?_ | refine .new rfl rfl rfl ?_ | exact .nl | exact .optr rfl | exact .nptr rfl rfl rfl | refine .t ?_ | exact .any _ | rfl))
 ·(first | exact Fin.q Try.results63 (.cons (.tmp rfl) .nil) [0] | refine Fin.q Try.results63 (.cons (.tmp rfl) .nil) [0] (hr := (.t ?_)) | refine Fin.mkv (rs := _) Try.results63 (.cons (.tmp rfl) .nil) [0] (by decide) rfl ?_ ?_ ?_ <;> repeat' (skip; first | exact .nil | refine .cons rfl ?_ ?_ | refine .cons ?_ ?_ | refine .row ?_ | refine .rset ?_ | refine .box ?_ | exact .gone | refine .aggL ?_ | refine .tupL ?_ | refine .old rfl ?_ | refine .new rfl rfl rfl ?_ | exact .nl | exact .optr rfl | exact .nptr rfl rfl rfl | refine .t ?_ | exact .any _ | rfl))
theorem dApply_c (l : List Int) (xs : List DXg) (hl : l.length ≤ 1048576) (hx : xs.length ≤ 4194304) : Cd Try.prog 35 [.ln (l.map tU), .ln (xs.map tXg)] (apA l xs) [] := by
 have h1 : (l.map tU).length = l.length := List.length_map _
 have h2 : (xs.map tXg).length = xs.length := List.length_map _
 have cw := cloneW_c l (by omega)
 refine Cd.enter' Try.func35 rfl Try.ntmps35 rfl ?_
 repeat' (first | ((with_reducible refine kAL ?_); (first | (refine kL 2026 rfl ?_; first | refine uK (cw) ?_) | refine uA ?_ | refine uS 21 (fun hb => ?_) (fun hb => ?_))) | refine uR ?_ | refine uC ?_ | refine kcp rfl (fun hc => ?_) (fun hc => ?_) | refine kcn rfl (fun hc => ?_) (fun hc => ?_) | refine kcb rfl (fun hc => ?_) (fun hc => ?_) | refine kcc rfl (fun hc => ?_) (fun hc => ?_) | refine AW.drawU (id := 7) mixed 0 qR ?_ | fail)
 all_goals first | (exfalso; omega) | skip
 refine AW.loopP (fun (q : Nat) => q ≤ xs.length ∧ apE l xs q = 0) (fun (q : Nat) => (pu (pu (pu (pu (fun _ => .any) 6 (.sl 0 0 l.length)) 11 (.ln (xs.map tXg))) 12 (i64 (xs.map tXg).length)) 13 (i64 q))) (fun (q : Nat) => [.row 0 80 1 ((apC l xs q).map tU)]) (fun (q : Nat) => xs.length - q) (0) ?_ ?_ ?_
 ·exact ⟨Nat.zero_le _, rfl⟩
 ·rw [apC_zero]
  exact Wk.cq 1
 ·intro q ⟨hq, h0⟩
  have hC := apC_len l xs q
  by_cases hq2 : q < xs.length
  ·obtain ⟨x, hq3⟩ : ∃ x, xs[q]? = some x := ⟨_, List.getElem?_eq_getElem hq2⟩
   have hs := fun c => apE_stop (c := c) hq3 h0
   have hn := apE_next hq3 h0
   have hc := apC_next (l := l) hq3
   have hC2 : ((apC l xs q).map tU).length = l.length := by rw [List.length_map, hC]
   obtain ⟨xa, xo, xn⟩ := x
   unfold apK at hs hn
   dsimp only at hs hn hc
   rw [hC] at hs hn
   by_cases k1 : xa < 0
   ·have hE := hs 5 (by rw [if_pos (.inl k1)]) (by decide)
    unfold apA
    rw [hE, if_neg (by decide)]
    clear hs hn hc
    generalize apC l xs q = C at *
    repeat' (first | ((with_reducible refine kAL ?_); (first | refine uA ?_ | refine uS 21 (fun hb => ?_) (fun hb => ?_))) | refine uR ?_ | refine uC ?_ | refine kcp rfl (fun hc => ?_) (fun hc => ?_) | refine kcn rfl (fun hc => ?_) (fun hc => ?_) | refine kcb rfl (fun hc => ?_) (fun hc => ?_) | refine kcc rfl (fun hc => ?_) (fun hc => ?_) | refine AW.drawU (id := 7) mixed 0 qR ?_ | fail)
    all_goals first | (exfalso; omega) | ((first | exact Fin.q Try.results35 (.cons (.tmp rfl) (.cons (.tmp rfl) .nil)) [] | refine Fin.q Try.results35 (.cons (.tmp rfl) (.cons (.tmp rfl) .nil)) [] (hr := (.tupL (.cons (.t ?_) (.cons (.t ?_) .nil)))) | refine Fin.mkv (rs := _) Try.results35 (.cons (.tmp rfl) (.cons (.tmp rfl) .nil)) [] (by decide) rfl ?_ ?_ ?_ <;> repeat' (skip; first | exact .nil | refine .cons rfl ?_ ?_ | refine .cons ?_ ?_ | refine .row ?_ | refine .rset ?_ | refine .box ?_ | exact .gone | refine .aggL ?_ | refine .tupL ?_ | refine .old rfl ?_ | refine .new rfl rfl rfl ?_ | exact .nl | exact .optr rfl | exact .nptr rfl rfl rfl | refine .t ?_ | exact .any _ | rfl)))
   ·by_cases k2 : (l.length : Int) ≤ xa
    ·have hE := hs 5 (by rw [if_pos (.inr k2)]) (by decide)
     unfold apA
     rw [hE, if_neg (by decide)]
     clear hs hn hc
     generalize apC l xs q = C at *
     repeat' (first | ((with_reducible refine kAL ?_); (first | refine uA ?_ | refine uS 21 (fun hb => ?_) (fun hb => ?_))) | refine uR ?_ | refine uC ?_ | refine kcp rfl (fun hc => ?_) (fun hc => ?_) | refine kcn rfl (fun hc => ?_) (fun hc => ?_) | refine kcb rfl (fun hc => ?_) (fun hc => ?_) | refine kcc rfl (fun hc => ?_) (fun hc => ?_) | refine AW.drawU (id := 7) mixed 0 qR ?_ | fail)
     all_goals first | (exfalso; omega) | ((first | exact Fin.q Try.results35 (.cons (.tmp rfl) (.cons (.tmp rfl) .nil)) [] | refine Fin.q Try.results35 (.cons (.tmp rfl) (.cons (.tmp rfl) .nil)) [] (hr := (.tupL (.cons (.t ?_) (.cons (.t ?_) .nil)))) | refine Fin.mkv (rs := _) Try.results35 (.cons (.tmp rfl) (.cons (.tmp rfl) .nil)) [] (by decide) rfl ?_ ?_ ?_ <;> repeat' (skip; first | exact .nil | refine .cons rfl ?_ ?_ | refine .cons ?_ ?_ | refine .row ?_ | refine .rset ?_ | refine .box ?_ | exact .gone | refine .aggL ?_ | refine .tupL ?_ | refine .old rfl ?_ | refine .new rfl rfl rfl ?_ | exact .nl | exact .optr rfl | exact .nptr rfl rfl rfl | refine .t ?_ | exact .any _ | rfl)))
    ·obtain ⟨k, rfl⟩ : ∃ k : Nat, xa = (k : Int) := ⟨xa.toNat, by omega⟩
     rw [if_neg (by omega), Int.toNat_natCast] at hs hn
     rw [Int.toNat_natCast] at hc
     obtain ⟨w, hw⟩ : ∃ w, (apC l xs q)[k]? = some w := ⟨_, List.getElem?_eq_getElem (by omega)⟩
     rw [List.getD_eq_getElem?_getD, hw, Option.getD_some] at hs hn
     by_cases k3 : w = xo
     ·rw [if_pos k3] at hn
      generalize apC l xs q = C at *
      clear hs
      subst k3
      repeat' (first | ((with_reducible refine kAL ?_); (first | refine uA ?_ | refine uS 21 (fun hb => ?_) (fun hb => ?_))) | refine uR ?_ | refine uC ?_ | refine kcp rfl (fun hc => ?_) (fun hc => ?_) | refine kcn rfl (fun hc => ?_) (fun hc => ?_) | refine kcb rfl (fun hc => ?_) (fun hc => ?_) | refine kcc rfl (fun hc => ?_) (fun hc => ?_) | refine AW.drawU (id := 7) mixed 0 qR ?_ | fail)
      all_goals first | (exfalso; omega) | skip
      refine ⟨q + 1, ⟨by omega, hn⟩, by omega, ?_⟩
      rw [hc]
      exact Wk.cq 1
     ·have hE := hs 3 (by rw [if_neg k3]) (by decide)
      unfold apA
      rw [hE, if_neg (by decide)]
      clear hs hn hc
      generalize apC l xs q = C at *
      repeat' (first | ((with_reducible refine kAL ?_); (first | refine uA ?_ | refine uS 21 (fun hb => ?_) (fun hb => ?_))) | refine uR ?_ | refine uC ?_ | refine kcp rfl (fun hc => ?_) (fun hc => ?_) | refine kcn rfl (fun hc => ?_) (fun hc => ?_) | refine kcb rfl (fun hc => ?_) (fun hc => ?_) | refine kcc rfl (fun hc => ?_) (fun hc => ?_) | refine AW.drawU (id := 7) mixed 0 qR ?_ | fail)
      all_goals first | (exfalso; omega) | ((first | exact Fin.q Try.results35 (.cons (.tmp rfl) (.cons (.tmp rfl) .nil)) [] | refine Fin.q Try.results35 (.cons (.tmp rfl) (.cons (.tmp rfl) .nil)) [] (hr := (.tupL (.cons (.t ?_) (.cons (.t ?_) .nil)))) | refine Fin.mkv (rs := _) Try.results35 (.cons (.tmp rfl) (.cons (.tmp rfl) .nil)) [] (by decide) rfl ?_ ?_ ?_ <;> repeat' (skip; first | exact .nil | refine .cons rfl ?_ ?_ | refine .cons ?_ ?_ | refine .row ?_ | refine .rset ?_ | refine .box ?_ | exact .gone | refine .aggL ?_ | refine .tupL ?_ | refine .old rfl ?_ | refine .new rfl rfl rfl ?_ | exact .nl | exact .optr rfl | exact .nptr rfl rfl rfl | refine .t ?_ | exact .any _ | rfl)))
  ·have e : q = xs.length := by omega
   subst e
   unfold apA
   rw [h0, if_pos rfl]
   generalize apC l xs xs.length = C at *
   refine AW.wk (Wk.freeze 0 rfl 6 rfl (.all (by simp; omega)) rfl) ?_
   repeat' (first | ((with_reducible refine kAL ?_); (first | refine uA ?_ | refine uS 21 (fun hb => ?_) (fun hb => ?_))) | refine uR ?_ | refine uC ?_ | refine kcp rfl (fun hc => ?_) (fun hc => ?_) | refine kcn rfl (fun hc => ?_) (fun hc => ?_) | refine kcb rfl (fun hc => ?_) (fun hc => ?_) | refine kcc rfl (fun hc => ?_) (fun hc => ?_) | refine AW.drawU (id := 7) mixed 0 qR ?_ | fail)
   all_goals first | (exfalso; omega) | ((first | exact Fin.q Try.results35 (.cons (.tmp rfl) (.cons (.tmp rfl) .nil)) [] | refine Fin.q Try.results35 (.cons (.tmp rfl) (.cons (.tmp rfl) .nil)) [] (hr := (.tupL (.cons (.t ?_) (.cons (.t ?_) .nil)))) | refine Fin.mkv (rs := _) Try.results35 (.cons (.tmp rfl) (.cons (.tmp rfl) .nil)) [] (by decide) rfl ?_ ?_ ?_ <;> repeat' (skip; first | exact .nil | refine .cons rfl ?_ ?_ | refine .cons ?_ ?_ | refine .row ?_ | refine .rset ?_ | refine .box ?_ | exact .gone | refine .aggL ?_ | refine .tupL ?_ | refine .old rfl ?_ | refine .new rfl rfl rfl ?_ | exact .nl | exact .optr rfl | exact .nptr rfl rfl rfl | refine .t ?_ | exact .any _ | rfl)))
theorem rApply_c (l : List Int) (xs : List DXg) (hl : l.length ≤ 1048576) (hx : xs.length ≤ 4194304) : Cd Try.prog 36 [.ln (l.map tU), .ln (xs.map tXg)] (apA l xs) [] := by
 have h1 : (l.map tU).length = l.length := List.length_map _
 have h2 : (xs.map tXg).length = xs.length := List.length_map _
 refine Cd.enter' Try.func36 rfl Try.ntmps36 rfl ?_
 repeat' (first | ((with_reducible refine kAL ?_); (first | (refine kL 12 rfl ?_; first | refine A_append_nlsub rfl rfl _ _ 67 rfl ud67 inf80 rfl rfl rfl rfl (by (try simp only [List.length_map, List.length_append, List.length_cons, List.length_nil]); omega) qB qB List.map_drop.symm (.push qL qN) ?_) | refine uA ?_ | refine uS 21 (fun hb => ?_) (fun hb => ?_))) | refine uR ?_ | refine uC ?_ | refine kcp rfl (fun hc => ?_) (fun hc => ?_) | refine kcn rfl (fun hc => ?_) (fun hc => ?_) | refine kcb rfl (fun hc => ?_) (fun hc => ?_) | refine kcc rfl (fun hc => ?_) (fun hc => ?_) | refine AW.drawU (id := 7) mixed 0 qR ?_ | fail)
 all_goals first | (exfalso; omega) | skip
 refine AW.loopP (fun (q : Nat) => q ≤ xs.length ∧ apE l xs q = 0) (fun (q : Nat) => (pu (pu (pu (pu (fun _ => .any) 6 (.sl 0 0 l.length)) 12 (.ln (xs.map tXg))) 13 (i64 (xs.map tXg).length)) 14 (i64 q))) (fun (q : Nat) => [.row 0 80 1 ((apC l xs q).map tU)]) (fun (q : Nat) => xs.length - q) (0) ?_ ?_ ?_
 ·exact ⟨Nat.zero_le _, rfl⟩
 ·rw [apC_zero]
  exact Wk.cq 1
 ·intro q ⟨hq, h0⟩
  have hC := apC_len l xs q
  by_cases hq2 : q < xs.length
  ·obtain ⟨x, hq3⟩ : ∃ x, xs[q]? = some x := ⟨_, List.getElem?_eq_getElem hq2⟩
   have hs := fun c => apE_stop (c := c) hq3 h0
   have hn := apE_next hq3 h0
   have hc := apC_next (l := l) hq3
   have hC2 : ((apC l xs q).map tU).length = l.length := by rw [List.length_map, hC]
   obtain ⟨xa, xo, xn⟩ := x
   unfold apK at hs hn
   dsimp only at hs hn hc
   rw [hC] at hs hn
   by_cases k1 : xa < 0
   ·have hE := hs 5 (by rw [if_pos (.inl k1)]) (by decide)
    unfold apA
    rw [hE, if_neg (by decide)]
    clear hs hn hc
    generalize apC l xs q = C at *
    repeat' (first | ((with_reducible refine kAL ?_); (first | (refine kL 12 rfl ?_; first | refine A_append_nlsub rfl rfl _ _ 67 rfl ud67 inf80 rfl rfl rfl rfl (by (try simp only [List.length_map, List.length_append, List.length_cons, List.length_nil]); omega) qB qB List.map_drop.symm (.push qL qN) ?_) | refine uA ?_ | refine uS 21 (fun hb => ?_) (fun hb => ?_))) | refine uR ?_ | refine uC ?_ | refine kcp rfl (fun hc => ?_) (fun hc => ?_) | refine kcn rfl (fun hc => ?_) (fun hc => ?_) | refine kcb rfl (fun hc => ?_) (fun hc => ?_) | refine kcc rfl (fun hc => ?_) (fun hc => ?_) | refine AW.drawU (id := 7) mixed 0 qR ?_ | fail)
    all_goals first | (exfalso; omega) | ((first | exact Fin.q Try.results36 (.cons (.tmp rfl) (.cons (.tmp rfl) .nil)) [] | refine Fin.q Try.results36 (.cons (.tmp rfl) (.cons (.tmp rfl) .nil)) [] (hr := (.tupL (.cons (.t ?_) (.cons (.t ?_) .nil)))) | refine Fin.mkv (rs := _) Try.results36 (.cons (.tmp rfl) (.cons (.tmp rfl) .nil)) [] (by decide) rfl ?_ ?_ ?_ <;> repeat' (skip; first | exact .nil | refine .cons rfl ?_ ?_ | refine .cons ?_ ?_ | refine .row ?_ | refine .rset ?_ | refine .box ?_ | exact .gone | refine .aggL ?_ | refine .tupL ?_ | refine .old rfl ?_ | refine .new rfl rfl rfl ?_ | exact .nl | exact .optr rfl | exact .nptr rfl rfl rfl | refine .t ?_ | exact .any _ | rfl)))
   ·by_cases k2 : (l.length : Int) ≤ xa
    ·have hE := hs 5 (by rw [if_pos (.inr k2)]) (by decide)
     unfold apA
     rw [hE, if_neg (by decide)]
     clear hs hn hc
     generalize apC l xs q = C at *
     repeat' (first | ((with_reducible refine kAL ?_); (first | (refine kL 12 rfl ?_; first | refine A_append_nlsub rfl rfl _ _ 67 rfl ud67 inf80 rfl rfl rfl rfl (by (try simp only [List.length_map, List.length_append, List.length_cons, List.length_nil]); omega) qB qB List.map_drop.symm (.push qL qN) ?_) | refine uA ?_ | refine uS 21 (fun hb => ?_) (fun hb => ?_))) | refine uR ?_ | refine uC ?_ | refine kcp rfl (fun hc => ?_) (fun hc => ?_) | refine kcn rfl (fun hc => ?_) (fun hc => ?_) | refine kcb rfl (fun hc => ?_) (fun hc => ?_) | refine kcc rfl (fun hc => ?_) (fun hc => ?_) | refine AW.drawU (id := 7) mixed 0 qR ?_ | fail)
     all_goals first | (exfalso; omega) | ((first | exact Fin.q Try.results36 (.cons (.tmp rfl) (.cons (.tmp rfl) .nil)) [] | refine Fin.q Try.results36 (.cons (.tmp rfl) (.cons (.tmp rfl) .nil)) [] (hr := (.tupL (.cons (.t ?_) (.cons (.t ?_) .nil)))) | refine Fin.mkv (rs := _) Try.results36 (.cons (.tmp rfl) (.cons (.tmp rfl) .nil)) [] (by decide) rfl ?_ ?_ ?_ <;> repeat' (skip; first | exact .nil | refine .cons rfl ?_ ?_ | refine .cons ?_ ?_ | refine .row ?_ | refine .rset ?_ | refine .box ?_ | exact .gone | refine .aggL ?_ | refine .tupL ?_ | refine .old rfl ?_ | refine .new rfl rfl rfl ?_ | exact .nl | exact .optr rfl | exact .nptr rfl rfl rfl | refine .t ?_ | exact .any _ | rfl)))
    ·obtain ⟨k, rfl⟩ : ∃ k : Nat, xa = (k : Int) := ⟨xa.toNat, by omega⟩
     rw [if_neg (by omega), Int.toNat_natCast] at hs hn
     rw [Int.toNat_natCast] at hc
     obtain ⟨w, hw⟩ : ∃ w, (apC l xs q)[k]? = some w := ⟨_, List.getElem?_eq_getElem (by omega)⟩
     rw [List.getD_eq_getElem?_getD, hw, Option.getD_some] at hs hn
     by_cases k3 : w = xo
     ·rw [if_pos k3] at hn
      generalize apC l xs q = C at *
      clear hs
      subst k3
      repeat' (first | ((with_reducible refine kAL ?_); (first | (refine kL 12 rfl ?_; first | refine A_append_nlsub rfl rfl _ _ 67 rfl ud67 inf80 rfl rfl rfl rfl (by (try simp only [List.length_map, List.length_append, List.length_cons, List.length_nil]); omega) qB qB List.map_drop.symm (.push qL qN) ?_) | refine uA ?_ | refine uS 21 (fun hb => ?_) (fun hb => ?_))) | refine uR ?_ | refine uC ?_ | refine kcp rfl (fun hc => ?_) (fun hc => ?_) | refine kcn rfl (fun hc => ?_) (fun hc => ?_) | refine kcb rfl (fun hc => ?_) (fun hc => ?_) | refine kcc rfl (fun hc => ?_) (fun hc => ?_) | refine AW.drawU (id := 7) mixed 0 qR ?_ | fail)
      all_goals first | (exfalso; omega) | skip
      refine ⟨q + 1, ⟨by omega, hn⟩, by omega, ?_⟩
      rw [hc]
      exact Wk.cq 1
     ·have hE := hs 3 (by rw [if_neg k3]) (by decide)
      unfold apA
      rw [hE, if_neg (by decide)]
      clear hs hn hc
      generalize apC l xs q = C at *
      repeat' (first | ((with_reducible refine kAL ?_); (first | (refine kL 12 rfl ?_; first | refine A_append_nlsub rfl rfl _ _ 67 rfl ud67 inf80 rfl rfl rfl rfl (by (try simp only [List.length_map, List.length_append, List.length_cons, List.length_nil]); omega) qB qB List.map_drop.symm (.push qL qN) ?_) | refine uA ?_ | refine uS 21 (fun hb => ?_) (fun hb => ?_))) | refine uR ?_ | refine uC ?_ | refine kcp rfl (fun hc => ?_) (fun hc => ?_) | refine kcn rfl (fun hc => ?_) (fun hc => ?_) | refine kcb rfl (fun hc => ?_) (fun hc => ?_) | refine kcc rfl (fun hc => ?_) (fun hc => ?_) | refine AW.drawU (id := 7) mixed 0 qR ?_ | fail)
      all_goals first | (exfalso; omega) | ((first | exact Fin.q Try.results36 (.cons (.tmp rfl) (.cons (.tmp rfl) .nil)) [] | refine Fin.q Try.results36 (.cons (.tmp rfl) (.cons (.tmp rfl) .nil)) [] (hr := (.tupL (.cons (.t ?_) (.cons (.t ?_) .nil)))) | refine Fin.mkv (rs := _) Try.results36 (.cons (.tmp rfl) (.cons (.tmp rfl) .nil)) [] (by decide) rfl ?_ ?_ ?_ <;> repeat' (skip; first | exact .nil | refine .cons rfl ?_ ?_ | refine .cons ?_ ?_ | refine .row ?_ | refine .rset ?_ | refine .box ?_ | exact .gone | refine .aggL ?_ | refine .tupL ?_ | refine .old rfl ?_ | refine .new rfl rfl rfl ?_ | exact .nl | exact .optr rfl | exact .nptr rfl rfl rfl | refine .t ?_ | exact .any _ | rfl)))
  ·have e : q = xs.length := by omega
   subst e
   unfold apA
   rw [h0, if_pos rfl]
   generalize apC l xs xs.length = C at *
   refine AW.wk (Wk.freeze 0 rfl 6 rfl (.all (by simp; omega)) rfl) ?_
   repeat' (first | ((with_reducible refine kAL ?_); (first | (refine kL 12 rfl ?_; first | refine A_append_nlsub rfl rfl _ _ 67 rfl ud67 inf80 rfl rfl rfl rfl (by (try simp only [List.length_map, List.length_append, List.length_cons, List.length_nil]); omega) qB qB List.map_drop.symm (.push qL qN) ?_) | refine uA ?_ | refine uS 21 (fun hb => ?_) (fun hb => ?_))) | refine uR ?_ | refine uC ?_ | refine kcp rfl (fun hc => ?_) (fun hc => ?_) | refine kcn rfl (fun hc => ?_) (fun hc => ?_) | refine kcb rfl (fun hc => ?_) (fun hc => ?_) | refine kcc rfl (fun hc => ?_) (fun hc => ?_) | refine AW.drawU (id := 7) mixed 0 qR ?_ | fail)
   all_goals first | (exfalso; omega) | ((first | exact Fin.q Try.results36 (.cons (.tmp rfl) (.cons (.tmp rfl) .nil)) [] | refine Fin.q Try.results36 (.cons (.tmp rfl) (.cons (.tmp rfl) .nil)) [] (hr := (.tupL (.cons (.t ?_) (.cons (.t ?_) .nil)))) | refine Fin.mkv (rs := _) Try.results36 (.cons (.tmp rfl) (.cons (.tmp rfl) .nil)) [] (by decide) rfl ?_ ?_ ?_ <;> repeat' (skip; first | exact .nil | refine .cons rfl ?_ ?_ | refine .cons ?_ ?_ | refine .row ?_ | refine .rset ?_ | refine .box ?_ | exact .gone | refine .aggL ?_ | refine .tupL ?_ | refine .old rfl ?_ | refine .new rfl rfl rfl ?_ | exact .nl | exact .optr rfl | exact .nptr rfl rfl rfl | refine .t ?_ | exact .any _ | rfl)))
end
section
abbrev u64 (x : Int) : AV := .t (.v (.int .u64 x))
end
section
attribute [local irreducible] AL AW RG Fin C Cd Cio thenQ blockQ retQ
set_option maxRecDepth 100000
def inI (n a b : Int) : Bool := decide (a ≤ n ∧ n ≤ b)
end
section
attribute [local irreducible] AL AW RG Fin C Cd Cio thenQ blockQ retQ
set_option maxRecDepth 100000
end
section
end
section
attribute [local irreducible] AL AW RG Fin C Cd Cio thenQ blockQ retQ
set_option maxRecDepth 100000
end
section
def caseOK (k : DCase) : Bool := decide (k.dir = 1 ∨ k.dir = 2) && inI k.handle 0 65535 && inI k.value 0 4294967295
structure Shaped (c : DConf) : Prop where
 t0 : 1 ≤ c.threads
 t1 : c.threads ≤ 64
 k : c.kind = 1 ∨ c.kind = 2 ∨ c.kind = 3
 h3 : c.kind = 3 → 1 ≤ c.chans ∧ c.chans ≤ 8 ∧ 0 ≤ c.cap ∧ c.cap ≤ 8
 h1 : c.kind ≠ 3 → 1 ≤ c.cap ∧ c.cap ≤ 16
structure WaitB (w : DWait) : Prop where
 t : 0 ≤ w.ticket ∧ w.ticket ≤ 4294967295
 s : 0 ≤ w.seq ∧ w.seq ≤ 1048575
 n : w.cases.length ≤ 3
 k : ∀ k ∈ w.cases, caseOK k = true
end
section
def okW (l : List DWait) : Prop := l.length ≤ 2932031007402 ∧ ∀ w ∈ l, w.cases.length ≤ 5864062014805
theorem okW.at {l : List DWait} (h : okW l) {q : Nat} {a : DWait} (ha : l[q]? = some a) : a.cases.length ≤ 5864062014805 := h.2 a (List.mem_of_getElem? ha)
end
section
attribute [local irreducible] AL AW RG Fin C Cd Cio thenQ blockQ retQ
set_option maxRecDepth 100000
end
section
attribute [local irreducible] AL AW RG Fin C Cd Cio thenQ blockQ retQ
set_option maxRecDepth 100000
end
section
attribute [local irreducible] AL AW RG Fin C Cd Cio thenQ blockQ retQ
set_option maxRecDepth 100000
theorem words_c (a b : List Int) (ha : a.length ≤ 1152921504606846976) : Cd Try.prog 37 [.ln (a.map tU), .ln (b.map tU)] (bo (decide (a = b))) [] := by
 have h1 : (a.map tU).length = a.length := List.length_map _
 have h2 : (b.map tU).length = b.length := List.length_map _
 refine Cd.enter' Try.func37 rfl Try.ntmps37 rfl ?_
 repeat' (first | refine uA ?_ | refine uC ?_ | refine kcp rfl (fun hc => ?_) (fun hc => ?_) | fail)
 ·refine Fin.q Try.results37 (.cons (.tmp rfl) .nil) [] (hr := (.t ?_))
  have : a ≠ b := by rintro rfl; exact hc rfl
  simp [this]
 ·refine AW.loopP (fun (i : Nat) => ∀ j, j < i → a.getD j 0 = b.getD j 0) (fun (i : Nat) => (pu (pu (pu (pu (pu (fun _ => .any) 0 (.ln (a.map tU))) 1 (.ln (b.map tU))) 4 (.t (.v (.bool false)))) 12 (i64 (a.map tU).length)) 13 (i64 i))) (fun (i : Nat) => []) (fun (i : Nat) => a.length + 1 - i) (0) ?_ ?_ ?_
  ·intro j hj; omega
  ·exact Wk.cq 0
  ·intro i hi
   repeat' (first | refine uA ?_ | refine uR ?_ | refine uC ?_ | refine kcp rfl (fun hc => ?_) (fun hc => ?_) | refine AW.drawU (id := 6) mixed 0 qR ?_ | fail)
   ·refine Fin.q Try.results37 (.cons (.tmp rfl) .nil) [] (hr := (.t ?_))
    have : a ≠ b := by rintro rfl; exact hc rfl
    simp [this]
   ·refine ⟨i + 1, fun j hj => ?_, by omega, ?_⟩
    ·by_cases e : j = i
     ·subst e; exact Decidable.not_not.1 hc
     ·exact hi j (by omega)
    ·exact Wk.cq 0
   ·refine Fin.q Try.results37 (.cons (.tmp rfl) .nil) [] (hr := (.t ?_))
    have : a = b := all_eq (z := 0) (by omega) fun j hj => hi j (by omega)
    simp [this]
end
section
attribute [local irreducible] AL AW RG Fin C Cd Cio thenQ blockQ retQ
set_option maxRecDepth 100000
theorem awake39_c : Cd Try.prog 25 [] (bo true) [] := by
 have c1 := dOf_c [1, 2, 3] [1, 5, 3] rfl (by decide)
 rw [show ofQ [1, 2, 3] [1, 5, 3] ([1, 2, 3] : List Int).length = [⟨1, 2, 5⟩] by decide] at c1
 have c2 := dBack_c [⟨1, 2, 5⟩] (by decide)
 rw [show bkQ [⟨1, 2, 5⟩] 0 = [⟨1, 5, 2⟩] by decide] at c2
 have c3 := dThen_c [⟨1, 2, 5⟩] [⟨1, 5, 2⟩] (by decide) (by decide)
 rw [show thA ([⟨1, 2, 5⟩] ++ [⟨1, 5, 2⟩]) = .tup [.t (.lst (([] : List DXg).map tXg)), i64 0] by unfold thA; rw [if_pos (by decide)]; rfl] at c3
 have L1 : [tXg ⟨1, 2, 5⟩].length = 1 := rfl
 have L0 : ([] : List (List Tr)).length = 0 := rfl
 refine Cd.enter' Try.func25 rfl Try.ntmps25 rfl ?_
 repeat' (first | ((with_reducible refine kAL ?_); (first | (refine kL 2159 rfl ?_; first | refine A_lit rfl rfl 67 3 _ rfl ud67 inf80 (.cons rfl (.cons rfl (.cons rfl .nil))) (els := [[_], [_], [_]]) rfl (by first | exact (rfl : _ = List.map tU [_]) | exact qN) rfl (Nat.ne_of_beq_eq_false rfl) (Nat.le_of_ble_eq_true rfl) (Nat.le_of_ble_eq_true rfl) (.push qL qN) ?_) | (refine kL 1066 rfl ?_; first | refine uK (c1) ?_) | (refine kL 1226 rfl ?_; first | refine uK (c2) ?_) | (refine kL 682 rfl ?_; first | refine uK (c3) ?_) | (refine kL 2633 rfl ?_; first | refine A_eqs rfl rfl 82 82 _ _ rfl rfl rfl (by kernel_rfl) (fun w => eqs82 9998 _ _ _ _ _ _ w) (by first | exact decide_eq_true (by first | (simp only [and_true]; omega) | (simp only [and_true]; done) | omega) | exact decide_eq_false (by first | (simp only [and_true]; omega) | (simp only [and_true]; done) | omega) | rfl) ?_) | refine uA ?_ | refine uS 20 (fun hb => ?_) (fun hb => ?_) | refine uS 25 (fun hb => ?_) (fun hb => ?_) | refine uS 32 (fun hb => ?_) (fun hb => ?_) | refine uS 36 (fun hb => ?_) (fun hb => ?_))) | refine uC ?_ | refine kcp rfl (fun hc => ?_) (fun hc => ?_) | refine kcn rfl (fun hc => ?_) (fun hc => ?_) | refine kcb rfl (fun hc => ?_) (fun hc => ?_) | refine kcc rfl (fun hc => ?_) (fun hc => ?_) | fail)
 all_goals first | (exfalso; omega) | ((first | exact Fin.q Try.results25 (.cons (.tmp rfl) .nil) [] | refine Fin.q Try.results25 (.cons (.tmp rfl) .nil) [] (hr := (.t ?_)) | refine Fin.mkv (rs := _) Try.results25 (.cons (.tmp rfl) .nil) [] (by decide) rfl ?_ ?_ ?_ <;> repeat' (skip; first | exact .nil | refine .cons rfl ?_ ?_ | refine .cons ?_ ?_ | refine .row ?_ | refine .rset ?_ | refine .box ?_ | exact .gone | refine .aggL ?_ | refine .tupL ?_ | refine .old rfl ?_ | refine .new rfl rfl rfl ?_ | exact .nl | exact .optr rfl | exact .nptr rfl rfl rfl | refine .t ?_ | exact .any _ | rfl)))
theorem same39_nil : Cd Try.prog 24 [.ln [], .ln []] (bo true) [] := same39_c [] (by decide)
theorem diffThen_c (a b : List DXg) (ha : a.length ≤ 1048576) (hb : b.length ≤ 1048576) : Cd Try.prog 5 [.t (.lst (a.map tXg)), .t (.lst (b.map tXg))] (bo true) [] := by
 have c1 := dThen_c a b ha hb
 have c2 := rThen_c a b ha hb
 have p1 := plain39_c a (by omega)
 have p2 := plain39_c b (by omega)
 have cA := awake39_c
 have hL := inR_len (thC (a ++ b) (a ++ b).length) (thC (a ++ b) (a ++ b).length).length
 have hL2 := thC_len (a ++ b) (a ++ b).length
 have hL3 : (a ++ b).length = a.length + b.length := List.length_append
 have s1 := same39_c (inR (thC (a ++ b) (a ++ b).length) (thC (a ++ b) (a ++ b).length).length) (by omega)
 have s2 := same39_nil
 unfold thA at c1 c2
 clear hL hL2 hL3
 generalize inR (thC (a ++ b) (a ++ b).length) (thC (a ++ b) (a ++ b).length).length = L at *
 by_cases h : thE (a ++ b) (a ++ b).length = 0
 ·rw [if_pos h] at c1 c2
  clear h
  refine Cd.enter' Try.func5 rfl Try.ntmps5 rfl ?_
  repeat' (first | ((with_reducible refine kAL ?_); (first | (refine kL 682 rfl ?_; first | refine uK (c1) ?_) | (refine kL 746 rfl ?_; first | refine uK (p1) ?_ | refine uK (p2) ?_) | (refine kL 714 rfl ?_; first | refine uK (c2) ?_) | (refine kL 778 rfl ?_; first | refine uK (s1) ?_) | (refine kL 810 rfl ?_; first | refine uK (cA) ?_) | refine uA ?_ | refine uS 26 (fun hb => ?_) (fun hb => ?_) | refine uS 31 (fun hb => ?_) (fun hb => ?_))) | refine uC ?_ | refine kcp rfl (fun hc => ?_) (fun hc => ?_) | refine kcn rfl (fun hc => ?_) (fun hc => ?_) | refine kcb rfl (fun hc => ?_) (fun hc => ?_) | refine kcc rfl (fun hc => ?_) (fun hc => ?_) | fail)
  all_goals first | (exfalso; omega) | ((first | exact Fin.q Try.results5 (.cons (.tmp rfl) .nil) [] | refine Fin.q Try.results5 (.cons (.tmp rfl) .nil) [] (hr := (.t ?_)) | refine Fin.mkv (rs := _) Try.results5 (.cons (.tmp rfl) .nil) [] (by decide) rfl ?_ ?_ ?_ <;> repeat' (skip; first | exact .nil | refine .cons rfl ?_ ?_ | refine .cons ?_ ?_ | refine .row ?_ | refine .rset ?_ | refine .box ?_ | exact .gone | refine .aggL ?_ | refine .tupL ?_ | refine .old rfl ?_ | refine .new rfl rfl rfl ?_ | exact .nl | exact .optr rfl | exact .nptr rfl rfl rfl | refine .t ?_ | exact .any _ | rfl)))
 ·rw [if_neg h] at c1 c2
  clear h
  refine Cd.enter' Try.func5 rfl Try.ntmps5 rfl ?_
  repeat' (first | ((with_reducible refine kAL ?_); (first | (refine kL 682 rfl ?_; first | refine uK (c1) ?_) | (refine kL 746 rfl ?_; first | refine uK (p1) ?_ | refine uK (p2) ?_) | (refine kL 714 rfl ?_; first | refine uK (c2) ?_) | (refine kL 778 rfl ?_; first | refine uK (s2) ?_) | (refine kL 810 rfl ?_; first | refine uK (cA) ?_) | refine uA ?_ | refine uS 26 (fun hb => ?_) (fun hb => ?_) | refine uS 31 (fun hb => ?_) (fun hb => ?_))) | refine uC ?_ | refine kcp rfl (fun hc => ?_) (fun hc => ?_) | refine kcn rfl (fun hc => ?_) (fun hc => ?_) | refine kcb rfl (fun hc => ?_) (fun hc => ?_) | refine kcc rfl (fun hc => ?_) (fun hc => ?_) | fail)
  all_goals first | (exfalso; omega) | ((first | exact Fin.q Try.results5 (.cons (.tmp rfl) .nil) [] | refine Fin.q Try.results5 (.cons (.tmp rfl) .nil) [] (hr := (.t ?_)) | refine Fin.mkv (rs := _) Try.results5 (.cons (.tmp rfl) .nil) [] (by decide) rfl ?_ ?_ ?_ <;> repeat' (skip; first | exact .nil | refine .cons rfl ?_ ?_ | refine .cons ?_ ?_ | refine .row ?_ | refine .rset ?_ | refine .box ?_ | exact .gone | refine .aggL ?_ | refine .tupL ?_ | refine .old rfl ?_ | refine .new rfl rfl rfl ?_ | exact .nl | exact .optr rfl | exact .nptr rfl rfl rfl | refine .t ?_ | exact .any _ | rfl)))
theorem words39 (l : List Int) (h : l.length ≤ 1048576) : Cd Try.prog 37 [.ln (l.map tU), .ln (l.map tU)] (bo true) [] := by
 have h0 := words_c l l (by omega)
 rw [decide_eq_true rfl] at h0
 exact h0
theorem words39_nil : Cd Try.prog 37 [.ln [], .ln []] (bo true) [] := words39 [] (by decide)
theorem diffOf_c (a b : List Int) (xs : List DXg) (ha : a.length ≤ 1048576) (hb : b.length ≤ 1048576) (hx : xs.length ≤ 1048576) : Cd Try.prog 7 [.ln (a.map tU), .ln (b.map tU), .ln (xs.map tXg)] (bo true) [] := by
 have c3 := dApply_c a xs ha (by omega)
 have c4 := rApply_c a xs ha (by omega)
 have p1 := plain39_c xs (by omega)
 have cA := awake39_c
 have w1 := words39 (apC a xs xs.length) (by rw [apC_len]; exact ha)
 have w2 := words39_nil
 have s2 := same39_nil
 unfold apA at c3 c4
 generalize apC a xs xs.length = X at *
 generalize apE a xs xs.length = E at *
 by_cases h : a.length = b.length
 ·have c1 := dOf_c a b h ha
  have c2 := rOf_c a b h ha
  have s1 := same39_c (ofQ a b a.length) (by have := ofQ_len a b a.length; omega)
  generalize ofQ a b a.length = L at *
  by_cases h2 : E = 0
  ·rw [if_pos h2] at c3 c4
   clear h h2
   refine Cd.enter' Try.func7 rfl Try.ntmps7 rfl ?_
   repeat' (first | ((with_reducible refine kAL ?_); (first | (refine kL 1066 rfl ?_; first | refine uK (c1) ?_) | (refine kL 1098 rfl ?_; first | refine uK (c2) ?_) | (refine kL 1130 rfl ?_; first | refine uK (c3) ?_) | (refine kL 746 rfl ?_; first | refine uK (p1) ?_) | (refine kL 1162 rfl ?_; first | refine uK (c4) ?_) | (refine kL 778 rfl ?_; first | refine uK (s1) ?_) | (refine kL 1194 rfl ?_; first | refine uK (w1) ?_) | (refine kL 810 rfl ?_; first | refine uK (cA) ?_) | refine uA ?_ | refine uS 43 (fun hb => ?_) (fun hb => ?_) | refine uS 48 (fun hb => ?_) (fun hb => ?_) | refine uS 53 (fun hb => ?_) (fun hb => ?_) | refine uS 58 (fun hb => ?_) (fun hb => ?_))) | refine uC ?_ | refine kcp rfl (fun hc => ?_) (fun hc => ?_) | refine kcn rfl (fun hc => ?_) (fun hc => ?_) | refine kcb rfl (fun hc => ?_) (fun hc => ?_) | refine kcc rfl (fun hc => ?_) (fun hc => ?_) | fail)
   all_goals first | (exfalso; omega) | ((first | exact Fin.q Try.results7 (.cons (.tmp rfl) .nil) [] | refine Fin.q Try.results7 (.cons (.tmp rfl) .nil) [] (hr := (.t ?_)) | refine Fin.mkv (rs := _) Try.results7 (.cons (.tmp rfl) .nil) [] (by decide) rfl ?_ ?_ ?_ <;> repeat' (skip; first | exact .nil | refine .cons rfl ?_ ?_ | refine .cons ?_ ?_ | refine .row ?_ | refine .rset ?_ | refine .box ?_ | exact .gone | refine .aggL ?_ | refine .tupL ?_ | refine .old rfl ?_ | refine .new rfl rfl rfl ?_ | exact .nl | exact .optr rfl | exact .nptr rfl rfl rfl | refine .t ?_ | exact .any _ | rfl)))
  ·rw [if_neg h2] at c3 c4
   clear h h2
   refine Cd.enter' Try.func7 rfl Try.ntmps7 rfl ?_
   repeat' (first | ((with_reducible refine kAL ?_); (first | (refine kL 1066 rfl ?_; first | refine uK (c1) ?_) | (refine kL 1098 rfl ?_; first | refine uK (c2) ?_) | (refine kL 1130 rfl ?_; first | refine uK (c3) ?_) | (refine kL 746 rfl ?_; first | refine uK (p1) ?_) | (refine kL 1162 rfl ?_; first | refine uK (c4) ?_) | (refine kL 778 rfl ?_; first | refine uK (s1) ?_) | (refine kL 1194 rfl ?_; first | refine uK (w2) ?_) | (refine kL 810 rfl ?_; first | refine uK (cA) ?_) | refine uA ?_ | refine uS 43 (fun hb => ?_) (fun hb => ?_) | refine uS 48 (fun hb => ?_) (fun hb => ?_) | refine uS 53 (fun hb => ?_) (fun hb => ?_) | refine uS 58 (fun hb => ?_) (fun hb => ?_))) | refine uC ?_ | refine kcp rfl (fun hc => ?_) (fun hc => ?_) | refine kcn rfl (fun hc => ?_) (fun hc => ?_) | refine kcb rfl (fun hc => ?_) (fun hc => ?_) | refine kcc rfl (fun hc => ?_) (fun hc => ?_) | fail)
   all_goals first | (exfalso; omega) | ((first | exact Fin.q Try.results7 (.cons (.tmp rfl) .nil) [] | refine Fin.q Try.results7 (.cons (.tmp rfl) .nil) [] (hr := (.t ?_)) | refine Fin.mkv (rs := _) Try.results7 (.cons (.tmp rfl) .nil) [] (by decide) rfl ?_ ?_ ?_ <;> repeat' (skip; first | exact .nil | refine .cons rfl ?_ ?_ | refine .cons ?_ ?_ | refine .row ?_ | refine .rset ?_ | refine .box ?_ | exact .gone | refine .aggL ?_ | refine .tupL ?_ | refine .old rfl ?_ | refine .new rfl rfl rfl ?_ | exact .nl | exact .optr rfl | exact .nptr rfl rfl rfl | refine .t ?_ | exact .any _ | rfl)))
 ·have c1 := dOf_cx a b h ha hb
  have c2 := rOf_cx a b h ha hb
  by_cases h2 : E = 0
  ·rw [if_pos h2] at c3 c4
   clear h h2
   refine Cd.enter' Try.func7 rfl Try.ntmps7 rfl ?_
   repeat' (first | ((with_reducible refine kAL ?_); (first | (refine kL 1066 rfl ?_; first | refine uK (c1) ?_) | (refine kL 1098 rfl ?_; first | refine uK (c2) ?_) | (refine kL 1130 rfl ?_; first | refine uK (c3) ?_) | (refine kL 746 rfl ?_; first | refine uK (p1) ?_) | (refine kL 1162 rfl ?_; first | refine uK (c4) ?_) | (refine kL 778 rfl ?_; first | refine uK (s2) ?_) | (refine kL 1194 rfl ?_; first | refine uK (w1) ?_) | (refine kL 810 rfl ?_; first | refine uK (cA) ?_) | refine uA ?_ | refine uS 43 (fun hb => ?_) (fun hb => ?_) | refine uS 48 (fun hb => ?_) (fun hb => ?_) | refine uS 53 (fun hb => ?_) (fun hb => ?_) | refine uS 58 (fun hb => ?_) (fun hb => ?_))) | refine uC ?_ | refine kcp rfl (fun hc => ?_) (fun hc => ?_) | refine kcn rfl (fun hc => ?_) (fun hc => ?_) | refine kcb rfl (fun hc => ?_) (fun hc => ?_) | refine kcc rfl (fun hc => ?_) (fun hc => ?_) | fail)
   all_goals first | (exfalso; omega) | ((first | exact Fin.q Try.results7 (.cons (.tmp rfl) .nil) [] | refine Fin.q Try.results7 (.cons (.tmp rfl) .nil) [] (hr := (.t ?_)) | refine Fin.mkv (rs := _) Try.results7 (.cons (.tmp rfl) .nil) [] (by decide) rfl ?_ ?_ ?_ <;> repeat' (skip; first | exact .nil | refine .cons rfl ?_ ?_ | refine .cons ?_ ?_ | refine .row ?_ | refine .rset ?_ | refine .box ?_ | exact .gone | refine .aggL ?_ | refine .tupL ?_ | refine .old rfl ?_ | refine .new rfl rfl rfl ?_ | exact .nl | exact .optr rfl | exact .nptr rfl rfl rfl | refine .t ?_ | exact .any _ | rfl)))
  ·rw [if_neg h2] at c3 c4
   clear h h2
   refine Cd.enter' Try.func7 rfl Try.ntmps7 rfl ?_
   repeat' (first | ((with_reducible refine kAL ?_); (first | (refine kL 1066 rfl ?_; first | refine uK (c1) ?_) | (refine kL 1098 rfl ?_; first | refine uK (c2) ?_) | (refine kL 1130 rfl ?_; first | refine uK (c3) ?_) | (refine kL 746 rfl ?_; first | refine uK (p1) ?_) | (refine kL 1162 rfl ?_; first | refine uK (c4) ?_) | (refine kL 778 rfl ?_; first | refine uK (s2) ?_) | (refine kL 1194 rfl ?_; first | refine uK (w2) ?_) | (refine kL 810 rfl ?_; first | refine uK (cA) ?_) | refine uA ?_ | refine uS 43 (fun hb => ?_) (fun hb => ?_) | refine uS 48 (fun hb => ?_) (fun hb => ?_) | refine uS 53 (fun hb => ?_) (fun hb => ?_) | refine uS 58 (fun hb => ?_) (fun hb => ?_))) | refine uC ?_ | refine kcp rfl (fun hc => ?_) (fun hc => ?_) | refine kcn rfl (fun hc => ?_) (fun hc => ?_) | refine kcb rfl (fun hc => ?_) (fun hc => ?_) | refine kcc rfl (fun hc => ?_) (fun hc => ?_) | fail)
   all_goals first | (exfalso; omega) | ((first | exact Fin.q Try.results7 (.cons (.tmp rfl) .nil) [] | refine Fin.q Try.results7 (.cons (.tmp rfl) .nil) [] (hr := (.t ?_)) | refine Fin.mkv (rs := _) Try.results7 (.cons (.tmp rfl) .nil) [] (by decide) rfl ?_ ?_ ?_ <;> repeat' (skip; first | exact .nil | refine .cons rfl ?_ ?_ | refine .cons ?_ ?_ | refine .row ?_ | refine .rset ?_ | refine .box ?_ | exact .gone | refine .aggL ?_ | refine .tupL ?_ | refine .old rfl ?_ | refine .new rfl rfl rfl ?_ | exact .nl | exact .optr rfl | exact .nptr rfl rfl rfl | refine .t ?_ | exact .any _ | rfl)))
end
end Go.Proofs.Ytnibnbcmnaflmaa
namespace Go.Proofs.Ytnibnbcmnaflmaa
set_option linter.unusedVariables false
set_option linter.unusedSimpArgs false
set_option linter.unnecessarySimpa false
end Go.Proofs.Ytnibnbcmnaflmaa
namespace Go.Proofs.Ytnibnbcmnaflmaa
open Go.RowKit
set_option linter.unusedVariables false
set_option linter.unusedSimpArgs false
set_option linter.unnecessarySimpa false
set_option maxRecDepth 100000
set_option maxHeartbeats 64000000
section
theorem val_frz {Kn : Nat → Nat → Prop} {ρ : Rho} {w : World} {Z Y : Nat → Prop} {els : List (List Tr)} {v : Value} (h : Val Kn ρ w Z Y (.ln els) v) (hz : ∀ b, Y b → Z b) : Val Kn ρ w Z Y (.t (.lst els)) v := by
 cases h with
 | ln hr hz' hn he => exact .t (Frz.shut hn hr (fun hne => hz _ (hz' hne)) he)
end
end Go.Proofs.Ytnibnbcmnaflmaa
