/- Joined: XTPack, XTCode, XTOkW, XTCases, XTPWaits, XTWords, XTLaw39, XTCompact, XTSortC, XTSortsP. -/
import Derived.Test.YtnibnbcmnaflmaaKEj
import Derived.Test.YtnibnbcmnaflmaaKEe
import Derived.Test.YtnibnbcmnaflmaaKEc
import Derived.Test.YtnibnbcmnaflmaaKEd
import Derived.Test.YtnibnbcmnaflmaaKEh
import Derived.Sort.Grow
namespace Go.Proofs.Ytnibnbcmnaflmaa
open Go.RowKit
set_option linter.unusedVariables false
set_option linter.unusedSimpArgs false
set_option linter.unnecessarySimpa false
set_option maxRecDepth 100000
set_option maxHeartbeats 64000000
section
attribute [local irreducible] AL AW RG Fin C Cd Cio thenQ blockQ retQ
set_option maxRecDepth 100000
end
section
def caseOK (k : DCase) : Bool := decide (k.dir = 1 ∨ k.dir = 2) && inI k.handle 0 65535 && inI k.value 0 4294967295
def stateC (c : DConf) : Int := if chkC c then (if c.kind = 3 then 1 + c.chans * (1 + c.cap) + c.threads * 4 else 1 + c.cap) else 0
def sizeC (c : DConf) : Int := if chkC c then stateC c + c.threads else 0
structure Shaped (c : DConf) : Prop where
 t0 : 1 ≤ c.threads
 t1 : c.threads ≤ 64
 k : c.kind = 1 ∨ c.kind = 2 ∨ c.kind = 3
 h3 : c.kind = 3 → 1 ≤ c.chans ∧ c.chans ≤ 8 ∧ 0 ≤ c.cap ∧ c.cap ≤ 8
 h1 : c.kind ≠ 3 → 1 ≤ c.cap ∧ c.cap ≤ 16
theorem inI_iff {n a b : Int} : inI n a b = true ↔ a ≤ n ∧ n ≤ b := by unfold inI; simp
theorem chkC_shaped {c : DConf} (h : chkC c = true) : Shaped c := by
 unfold chkC at h
 simp only [Bool.and_eq_true, inI_iff] at h
 obtain ⟨⟨⟨⟨⟨⟨a, _⟩, _⟩, _⟩, _⟩, _⟩, o⟩ := h
 unfold ownC at o
 by_cases k : c.kind = 1 ∨ c.kind = 2
 ·rw [if_pos k] at o
  simp only [Bool.and_eq_true, inI_iff, decide_eq_true_eq] at o
  exact ⟨a.1, a.2, by omega, fun h => by omega, fun _ => o.1.1.1⟩
 ·rw [if_neg k] at o
  by_cases k3 : c.kind = 3
  ·rw [if_pos k3] at o
   simp only [Bool.and_eq_true, inI_iff, decide_eq_true_eq] at o
   exact ⟨a.1, a.2, by omega, fun _ => ⟨o.1.1.1.1.1, o.1.1.1.1.2, o.1.1.1.2.1, o.1.1.1.2.2⟩, fun h => absurd k3 h⟩
  ·rw [if_neg k3] at o; cases o
structure WaitB (w : DWait) : Prop where
 t : 0 ≤ w.ticket ∧ w.ticket ≤ 4294967295
 s : 0 ≤ w.seq ∧ w.seq ≤ 1048575
 n : w.cases.length ≤ 3
 k : ∀ k ∈ w.cases, caseOK k = true
end
section
def okW (l : List DWait) : Prop := l.length ≤ 2932031007402 ∧ ∀ w ∈ l, w.cases.length ≤ 5864062014805
theorem okW.at {l : List DWait} (h : okW l) {q : Nat} {a : DWait} (ha : l[q]? = some a) : a.cases.length ≤ 5864062014805 := h.2 a (List.mem_of_getElem? ha)
end
section
attribute [local irreducible] AL AW RG Fin C Cd Cio thenQ blockQ retQ
set_option maxRecDepth 100000
end
section
attribute [local irreducible] AL AW RG Fin C Cd Cio thenQ blockQ retQ
set_option maxRecDepth 100000
end
section
attribute [local irreducible] AL AW RG Fin C Cd Cio thenQ blockQ retQ
set_option maxRecDepth 100000
end
section
attribute [local irreducible] AL AW RG Fin C Cd Cio thenQ blockQ retQ
set_option maxRecDepth 100000
theorem awake39_c : Cd Try.prog 25 [] (bo true) [] := by
 have c1 := dOf_c [1, 2, 3] [1, 5, 3] rfl (by decide)
 rw [show ofQ [1, 2, 3] [1, 5, 3] ([1, 2, 3] : List Int).length = [⟨1, 2, 5⟩] by decide] at c1
 have c2 := dBack_c [⟨1, 2, 5⟩] (by decide)
 rw [show bkQ [⟨1, 2, 5⟩] 0 = [⟨1, 5, 2⟩] by decide] at c2
 have c3 := dThen_c [⟨1, 2, 5⟩] [⟨1, 5, 2⟩] (by decide) (by decide)
 rw [show thA ([⟨1, 2, 5⟩] ++ [⟨1, 5, 2⟩]) = .tup [.t (.lst (([] : List DXg).map tXg)), i64 0] by unfold thA; rw [if_pos (by decide)]; rfl] at c3
 have L1 : [tXg ⟨1, 2, 5⟩].length = 1 := rfl
 have L0 : ([] : List (List Tr)).length = 0 := rfl
 refine Cd.enter' Try.func25 rfl Try.ntmps25 rfl ?_
 repeat' (first | ((with_reducible refine kAL ?_); (first | (refine kL 2159 rfl ?_; first | refine A_lit rfl rfl 67 3 _ rfl ud67 inf80 (.cons rfl (.cons rfl (.cons rfl .nil))) (els := [[_], [_], [_]]) rfl (by first | exact (rfl : _ = List.map tU [_]) | exact qN) rfl (Nat.ne_of_beq_eq_false rfl) (Nat.le_of_ble_eq_true rfl) (Nat.le_of_ble_eq_true rfl) (.push qL qN) ?_) | (refine kL 1066 rfl ?_; first | refine uK (c1) ?_) | (refine kL 1226 rfl ?_; first | refine uK (c2) ?_) | (refine kL 682 rfl ?_; first | refine uK (c3) ?_) | (refine kL 2633 rfl ?_; first | refine A_eqs rfl rfl 82 82 _ _ rfl rfl rfl (by kernel_rfl) (fun w => eqs82 9998 _ _ _ _ _ _ w) (by first | exact decide_eq_true (by first | (simp only [and_true]; omega) | (simp only [and_true]; done) | omega) | exact decide_eq_false (by first | (simp only [and_true]; omega) | (simp only [and_true]; done) | omega) | rfl) ?_) | refine uA ?_ | refine uS 20 (fun hb => ?_) (fun hb => ?_) | refine uS 25 (fun hb => ?_) (fun hb => ?_) | refine uS 32 (fun hb => ?_) (fun hb => ?_) | refine uS 36 (fun hb => ?_) (fun hb => ?_))) | refine uC ?_ | refine kcp rfl (fun hc => ?_) (fun hc => ?_) | refine kcn rfl (fun hc => ?_) (fun hc => ?_) | refine kcb rfl (fun hc => ?_) (fun hc => ?_) | refine kcc rfl (fun hc => ?_) (fun hc => ?_) | fail)
 all_goals first | (exfalso; omega) | ((first | exact Fin.q Try.results25 (.cons (.tmp rfl) .nil) [] | refine Fin.q Try.results25 (.cons (.tmp rfl) .nil) [] (hr := (.t ?_)) | refine Fin.mkv (rs := _) Try.results25 (.cons (.tmp rfl) .nil) [] (by decide) rfl ?_ ?_ ?_ <;> repeat' (skip; first | exact .nil | refine .cons rfl ?_ ?_ | refine .cons ?_ ?_ | refine .row ?_ | refine .rset ?_ | refine .box ?_ | exact .gone | refine .aggL ?_ | refine .tupL ?_ | refine .old rfl ?_ | refine .new rfl rfl rfl ?_ | exact .nl | exact .optr rfl | exact .nptr rfl rfl rfl | refine .t ?_ | exact .any _ | rfl)))
end
section
attribute [local irreducible] AL AW RG Fin C Cd Cio thenQ blockQ retQ
set_option maxRecDepth 100000
def cmQ (l : List Int) (q : Nat) : List Int := (List.range q).filterMap fun i => if i = 0 ∨ l.getD i 0 ≠ l.getD (i - 1) 0 then some (l.getD i 0) else none
theorem cmQ_yes {l : List Int} {q : Nat} {x y : Int} (hx : l[q]? = some x) (hy : l[q - 1]? = some y) (h : x ≠ y) : cmQ l (q + 1) = cmQ l q ++ [x] := by
 unfold cmQ
 rw [List.range_succ, List.filterMap_append]
 simp [hx, hy, h]
theorem cmQ_no {l : List Int} {q : Nat} {x : Int} (h0 : 0 < q) (hx : l[q]? = some x) (hy : l[q - 1]? = some x) : cmQ l (q + 1) = cmQ l q := by
 unfold cmQ
 rw [List.range_succ, List.filterMap_append]
 simp [hx, hy]
 omega
theorem cmQ_one {l : List Int} {x : Int} (hx : l[0]? = some x) : cmQ l 1 = [x] := by
 unfold cmQ; simp [List.range_succ, hx]
theorem cmQ_small {l : List Int} (h : l.length < 2) : cmQ l l.length = l := by
 match l, h with
 | [], _ => rfl
 | [x], _ => exact cmQ_one rfl
theorem compact_c {k : Nat} (l : List Int) (hl : l.length ≤ 1152921504606846976) : Cio Try.prog 67 [.sl 0 k l.length] [.row k 3 1 (l.map tI)] (.sl 0 k (cmQ l l.length).length) [.row k 3 1 ((cmQ l l.length).map tI)] := by
 have h1 : (l.map tI).length = l.length := List.length_map _
 by_cases h2 : l.length < 2
 ·rw [cmQ_small h2]
  refine Cio.enter' Try.func67 rfl Try.ntmps67 rfl qM ?_
  repeat' (first | ((with_reducible refine kAL ?_); (first | (refine kL 12 rfl ?_; first | refine A_clear rfl rfl rfl ud22 inf3 rfl rfl rfl rfl (by first | omega | (simp <;> fail) | (simp; omega)) qN ?_) | refine uA ?_)) | refine uR ?_ | refine uC ?_ | refine kcp rfl (fun hc => ?_) (fun hc => ?_) | refine kcn rfl (fun hc => ?_) (fun hc => ?_) | refine kcb rfl (fun hc => ?_) (fun hc => ?_) | refine kcc rfl (fun hc => ?_) (fun hc => ?_) | refine AW.drawU (id := 6) mixed 0 qR ?_ | refine AW.drawU (id := 11) mixed 0 qR ?_ | fail)
  all_goals first | (exfalso; omega) | ((first | exact Fin.q Try.results67 (.cons (.tmp rfl) .nil) [] | refine Fin.q Try.results67 (.cons (.tmp rfl) .nil) [] (hr := (.t ?_)) | refine Fin.mkv (rs := _) Try.results67 (.cons (.tmp rfl) .nil) [] (by decide) rfl ?_ ?_ ?_ <;> repeat' (skip; first | exact .nil | refine .cons rfl ?_ ?_ | refine .cons ?_ ?_ | refine .row ?_ | refine .rset ?_ | refine .box ?_ | exact .gone | refine .aggL ?_ | refine .tupL ?_ | refine .old rfl ?_ | refine .new rfl rfl rfl ?_ | exact .nl | exact .optr rfl | exact .nptr rfl rfl rfl | refine .t ?_ | exact .any _ | rfl)))
 ·refine Cio.enter' Try.func67 rfl Try.ntmps67 rfl qM ?_
  repeat' (first | ((with_reducible refine kAL ?_); (first | (refine kL 12 rfl ?_; first | refine A_clear rfl rfl rfl ud22 inf3 rfl rfl rfl rfl (by first | omega | (simp <;> fail) | (simp; omega)) qN ?_) | refine uA ?_)) | refine uR ?_ | refine uC ?_ | refine kcp rfl (fun hc => ?_) (fun hc => ?_) | refine kcn rfl (fun hc => ?_) (fun hc => ?_) | refine kcb rfl (fun hc => ?_) (fun hc => ?_) | refine kcc rfl (fun hc => ?_) (fun hc => ?_) | refine AW.drawU (id := 6) mixed 0 qR ?_ | refine AW.drawU (id := 11) mixed 0 qR ?_ | fail)
  all_goals first | (exfalso; omega) | skip
  obtain ⟨x0, hx0⟩ : ∃ x, l[0]? = some x := ⟨_, List.getElem?_eq_getElem (by omega)⟩
  refine AW.loopP (fun (j : Nat) => 1 ≤ j ∧ j ≤ l.length ∧ cmQ l j = l.take j) (fun (j : Nat) => (pu (pu (fun _ => .any) 0 (.sl 0 k l.length)) 3 (i64 j))) (fun (j : Nat) => [.row k 3 1 (l.map tI)]) (fun (j : Nat) => l.length - j) (1) ?_ ?_ ?_
  ·refine ⟨Nat.le_refl _, by omega, ?_⟩
   rw [cmQ_one hx0, List.take_add_one, hx0]; rfl
  ·exact Wk.cq 1
  ·rintro j ⟨hj1, hj, hC⟩
   by_cases hj2 : j < l.length
   ·obtain ⟨x, hx⟩ : ∃ x, l[j]? = some x := ⟨_, List.getElem?_eq_getElem hj2⟩
    obtain ⟨y, hy⟩ : ∃ y, l[j - 1]? = some y := ⟨_, List.getElem?_eq_getElem (by omega)⟩
    have hy2 : l[((j : Int) - 1).toNat]? = some y := by rw [show ((j : Int) - 1).toNat = j - 1 by omega]; exact hy
    by_cases e : x = y
    ·subst e
     have hn := cmQ_no (by omega) hx hy
     repeat' (first | ((with_reducible refine kAL ?_); (first | (refine kL 12 rfl ?_; first | refine A_clear rfl rfl rfl ud22 inf3 rfl rfl rfl rfl (by first | omega | (simp <;> fail) | (simp; omega)) qN ?_) | refine uA ?_)) | refine uR ?_ | refine uC ?_ | refine kcp rfl (fun hc => ?_) (fun hc => ?_) | refine kcn rfl (fun hc => ?_) (fun hc => ?_) | refine kcb rfl (fun hc => ?_) (fun hc => ?_) | refine kcc rfl (fun hc => ?_) (fun hc => ?_) | refine AW.drawU (id := 6) mixed 0 qR ?_ | refine AW.drawU (id := 11) mixed 0 qR ?_ | fail)
     all_goals first | (exfalso; omega) | skip
     refine AW.loopP (fun (x : Nat × List Int) => 1 ≤ x.1 ∧ j + x.1 ≤ l.length ∧ x.2.length = l.length ∧ (cmQ l (j + x.1)).length + 1 ≤ j + x.1 ∧ x.2.take (cmQ l (j + x.1)).length = cmQ l (j + x.1) ∧ ∀ i, j + x.1 ≤ i + 1 → x.2[i]? = l[i]?) (fun (x : Nat × List Int) => (pu (pu (pu (pu (fun _ => .any) 0 (.sl 0 k l.length)) 3 (i64 (cmQ l (j + x.1)).length)) 4 (.sub 0 k j (l.length - j))) 5 (i64 x.1))) (fun (x : Nat × List Int) => [.row k 3 1 (x.2.map tI)]) (fun (x : Nat × List Int) => l.length - j - x.1) ((1, l)) ?_ ?_ ?_
     ·dsimp only
      rw [hn, hC, List.length_take, Nat.min_eq_left (by omega)]
      exact ⟨by omega, by omega, rfl, by omega, rfl, fun _ _ => rfl⟩
     ·dsimp only
      rw [hn, hC, List.length_take, Nat.min_eq_left (by omega)]
      exact Wk.cq 1
     ·rintro ⟨q, M⟩ ⟨hq1, hq, hM, hK, hT, hR⟩
      dsimp only at hq1 hq hM hK hT hR ⊢
      have hM1 : (M.map tI).length = l.length := by rw [List.length_map, hM]
      by_cases hq2 : j + q < l.length
      ·obtain ⟨z, hz⟩ : ∃ z, l[j + q]? = some z := ⟨_, List.getElem?_eq_getElem hq2⟩
       obtain ⟨y, hy3⟩ : ∃ y, l[j + q - 1]? = some y := ⟨_, List.getElem?_eq_getElem (by omega)⟩
       have hMz : M[j + q]? = some z := by rw [hR _ (by omega), hz]
       have hMy : M[j + ((q : Int) - 1).toNat]? = some y := by rw [show j + ((q : Int) - 1).toNat = j + q - 1 by omega, hR _ (by omega), hy3]
       by_cases e2 : z = y
       ·subst e2
        have hn2 := cmQ_no (by omega) hz hy3
        generalize hKq : cmQ l (j + q) = K at *
        repeat' (first | ((with_reducible refine kAL ?_); (first | (refine kL 12 rfl ?_; first | refine A_clear rfl rfl rfl ud22 inf3 rfl rfl rfl rfl (by first | omega | (simp <;> fail) | (simp; omega)) qN ?_) | refine uA ?_)) | refine uR ?_ | refine uC ?_ | refine kcp rfl (fun hc => ?_) (fun hc => ?_) | refine kcn rfl (fun hc => ?_) (fun hc => ?_) | refine kcb rfl (fun hc => ?_) (fun hc => ?_) | refine kcc rfl (fun hc => ?_) (fun hc => ?_) | refine AW.drawU (id := 6) mixed 0 qR ?_ | refine AW.drawU (id := 11) mixed 0 qR ?_ | fail)
        all_goals first | (exfalso; omega) | skip
        refine ⟨(q + 1, M), ⟨by dsimp only; omega, by dsimp only; omega, hM, by dsimp only; rw [← Nat.add_assoc, hn2]; omega, by dsimp only; rw [← Nat.add_assoc, hn2]; exact hT, fun i hi => hR i (by dsimp only at hi; omega)⟩, by dsimp only; omega, ?_⟩
        dsimp only
        rw [← Nat.add_assoc, hn2]
        exact Wk.cq 1
       ·have hn2 := cmQ_yes hz hy3 e2
        generalize hKq : cmQ l (j + q) = K at *
        obtain ⟨w, hw⟩ : ∃ w, M[K.length]? = some w := ⟨_, List.getElem?_eq_getElem (by omega)⟩
        repeat' (first | ((with_reducible refine kAL ?_); (first | (refine kL 12 rfl ?_; first | refine A_clear rfl rfl rfl ud22 inf3 rfl rfl rfl rfl (by first | omega | (simp <;> fail) | (simp; omega)) qN ?_) | refine uA ?_)) | refine uR ?_ | refine uC ?_ | refine kcp rfl (fun hc => ?_) (fun hc => ?_) | refine kcn rfl (fun hc => ?_) (fun hc => ?_) | refine kcb rfl (fun hc => ?_) (fun hc => ?_) | refine kcc rfl (fun hc => ?_) (fun hc => ?_) | refine AW.drawU (id := 6) mixed 0 qR ?_ | refine AW.drawU (id := 11) mixed 0 qR ?_ | fail)
        all_goals first | (exfalso; omega) | skip
        refine ⟨(q + 1, M.set K.length z), ⟨by dsimp only; omega, by dsimp only; omega, by dsimp only; rw [List.length_set]; exact hM, by dsimp only; rw [← Nat.add_assoc, hn2, List.length_append, List.length_singleton]; omega, ?_, fun i hi => ?_⟩, by dsimp only; omega, ?_⟩
        ·dsimp only
         rw [← Nat.add_assoc, hn2, List.length_append, List.length_singleton, List.take_add_one, List.getElem?_set, if_pos rfl, if_pos (by omega), List.take_set_of_le (Nat.le_refl _), hT]
         rfl
        ·dsimp only at hi ⊢
         rw [List.getElem?_set, if_neg (by omega)]
         exact hR i (by omega)
        ·dsimp only
         rw [← Nat.add_assoc, hn2, List.length_append, List.length_singleton]
         exact Wk.cq 1
      ·have e3 : j + q = l.length := by omega
       have hq3 : q = l.length - j := by omega
       have hKe : cmQ l l.length = cmQ l (j + q) := by rw [e3]
       rw [hKe]
       generalize cmQ l (j + q) = K at *
       repeat' (first | ((with_reducible refine kAL ?_); (first | (refine kL 12 rfl ?_; first | refine A_clear rfl rfl rfl ud22 inf3 rfl rfl rfl rfl (by first | omega | (simp <;> fail) | (simp; omega)) qN ?_) | refine uA ?_)) | refine uR ?_ | refine uC ?_ | refine kcp rfl (fun hc => ?_) (fun hc => ?_) | refine kcn rfl (fun hc => ?_) (fun hc => ?_) | refine kcb rfl (fun hc => ?_) (fun hc => ?_) | refine kcc rfl (fun hc => ?_) (fun hc => ?_) | refine AW.drawU (id := 6) mixed 0 qR ?_ | refine AW.drawU (id := 11) mixed 0 qR ?_ | fail)
       all_goals first | (exfalso; omega) | skip
       rw [← List.map_take, hT]
       (first | exact Fin.q Try.results67 (.cons (.tmp rfl) .nil) [] | refine Fin.q Try.results67 (.cons (.tmp rfl) .nil) [] (hr := (.t ?_)) | refine Fin.mkv (rs := _) Try.results67 (.cons (.tmp rfl) .nil) [] (by decide) rfl ?_ ?_ ?_ <;> repeat' (skip; first | exact .nil | refine .cons rfl ?_ ?_ | refine .cons ?_ ?_ | refine .row ?_ | refine .rset ?_ | refine .box ?_ | exact .gone | refine .aggL ?_ | refine .tupL ?_ | refine .old rfl ?_ | refine .new rfl rfl rfl ?_ | exact .nl | exact .optr rfl | exact .nptr rfl rfl rfl | refine .t ?_ | exact .any _ | rfl))
    ·have hn := cmQ_yes hx hy e
     repeat' (first | ((with_reducible refine kAL ?_); (first | (refine kL 12 rfl ?_; first | refine A_clear rfl rfl rfl ud22 inf3 rfl rfl rfl rfl (by first | omega | (simp <;> fail) | (simp; omega)) qN ?_) | refine uA ?_)) | refine uR ?_ | refine uC ?_ | refine kcp rfl (fun hc => ?_) (fun hc => ?_) | refine kcn rfl (fun hc => ?_) (fun hc => ?_) | refine kcb rfl (fun hc => ?_) (fun hc => ?_) | refine kcc rfl (fun hc => ?_) (fun hc => ?_) | refine AW.drawU (id := 6) mixed 0 qR ?_ | refine AW.drawU (id := 11) mixed 0 qR ?_ | fail)
     all_goals first | (exfalso; omega) | skip
     refine ⟨j + 1, ⟨by omega, by omega, ?_⟩, by omega, ?_⟩
     ·rw [hn, hC, List.take_add_one, hx]; rfl
     ·exact Wk.cq 1
   ·have e : j = l.length := by omega
    subst e
    rw [List.take_length] at hC
    rw [hC]
    repeat' (first | ((with_reducible refine kAL ?_); (first | (refine kL 12 rfl ?_; first | refine A_clear rfl rfl rfl ud22 inf3 rfl rfl rfl rfl (by first | omega | (simp <;> fail) | (simp; omega)) qN ?_) | refine uA ?_)) | refine uR ?_ | refine uC ?_ | refine kcp rfl (fun hc => ?_) (fun hc => ?_) | refine kcn rfl (fun hc => ?_) (fun hc => ?_) | refine kcb rfl (fun hc => ?_) (fun hc => ?_) | refine kcc rfl (fun hc => ?_) (fun hc => ?_) | refine AW.drawU (id := 6) mixed 0 qR ?_ | refine AW.drawU (id := 11) mixed 0 qR ?_ | fail)
    all_goals first | (exfalso; omega) | ((first | exact Fin.q Try.results67 (.cons (.tmp rfl) .nil) [] | refine Fin.q Try.results67 (.cons (.tmp rfl) .nil) [] (hr := (.t ?_)) | refine Fin.mkv (rs := _) Try.results67 (.cons (.tmp rfl) .nil) [] (by decide) rfl ?_ ?_ ?_ <;> repeat' (skip; first | exact .nil | refine .cons rfl ?_ ?_ | refine .cons ?_ ?_ | refine .row ?_ | refine .rset ?_ | refine .box ?_ | exact .gone | refine .aggL ?_ | refine .tupL ?_ | refine .old rfl ?_ | refine .new rfl rfl rfl ?_ | exact .nl | exact .optr rfl | exact .nptr rfl rfl rfl | refine .t ?_ | exact .any _ | rfl)))
end
section
abbrev srtL (l : List Int) : List Int := l.mergeSort fun x y => decide (x ≤ y)
theorem sort_io {P : Program} {f : FuncId}
  (hs : ∀ (blk cap : Nat) (zs : List Int) (w : World), Go.Sort.Holds (Value.int .i64) w blk 0 zs.toArray → blk < w.heap.size → zs.length < 4611686018427387904 →
   Calls P f #[.slice (some ⟨blk, 0, none⟩) zs.length cap] w fun e w' => e = .returned (.tuple #[]) ∧ ∃ n os, w' = Go.Sort.grow (Go.Sort.putRow (Value.int .i64) (Go.Sort.ahead w n) blk 0 (zs.mergeSort fun x y => decide (x ≤ y)).toArray) os)
  (h0 : ∀ (p : Option Addr) (cap : Nat) (w : World), Calls P f #[.slice p 0 cap] w fun e w' => e = .returned (.tuple #[]) ∧ w' = w)
  {k : Nat} {E : TypeId} (l : List Int) (hl : l.length < 4611686018427387904) : Cio P f [.sl 0 k l.length] [.row k E 1 (l.map tI)] (.tup []) [.row k E 1 ((srtL l).map tI)] := by
 intro e vs hH hrep hdom hav
 have ok : Ok e [.row k E 1 (l.map tI)] e.W e.ρ e.Z e.Y := ⟨hrep, hdom, fun b h => .inl h, fun _ h => h, fun _ h => h, fun i q h => ⟨by rw [← hH]; exact h, rfl⟩, rfl, rfl, rfl, Nat.le_refl _, fun _ _ => rfl⟩
 obtain ⟨v, rfl⟩ : ∃ v, vs = [v] := by
  have := hav.len
  cases vs with
  | nil => simp at this
  | cons a t => cases t with
   | nil => exact ⟨a, rfl⟩
   | cons b t => simp at this
 have hv := hav.at_ 0 _ _ rfl rfl
 obtain ⟨h1, xs, h2, h3⟩ := hrep.obs 0 _ rfl
 generalize hq : AV.sl 0 k l.length = q at hv
 cases hv <;> cases hq
 rename_i hk hc hz
 rw [List.length_map] at h3
 by_cases hn : l = []
 ·subst hn
  refine (h0 _ _ _).mono ?_
  rintro en w' ⟨rfl, rfl⟩
  refine ⟨.tuple #[], .tup [], _, e.ρ, e.Z, e.Y, rfl, ⟨rfl, ?_⟩, ok, .tup (us := []) rfl (fun j x u h => by simp at h)⟩
  simp [srtL]
 ·have hpos : 0 < l.length := List.length_pos_iff.2 hn
  rcases h3 with ⟨_, hn0, _⟩ | ⟨hcp, hown⟩
  ·omega
  have hown2 := hown
  rcases hown.2 with ⟨he, hn0⟩ | ⟨g, cap, cur, he, hbg, hg, hnc, hcm, hcs, htake⟩
  ·omega
  simp only [Value.slice.injEq] at he
  obtain ⟨ha, _, hcc⟩ := he
  rw [ha, hcc]
  have hsz : l.length ≤ cur.size := by rw [hcs]; omega
  have hxs : xs = cur.toList.take (l.length * 1) := htake.symm
  have hx : ∀ (j : Nat) (hj : j < l.length), cur[j]? = some (.int .i64 l[j]) := by
   intro j hj
   obtain ⟨u, q1, q2⟩ := h2.cell (i := j) (cs := tI l[j]) (by rw [List.getElem?_map, List.getElem?_eq_getElem hj]; rfl) (j := 0) (x := .v (.int .i64 l[j])) rfl
   cases q2
   rw [hxs, List.getElem?_take, if_pos (by omega)] at q1
   rw [← q1, Nat.mul_one, Nat.add_zero, Array.getElem?_toList]
  have hlt : g < e.W.heap.size := by
   rcases Nat.lt_or_ge g e.W.heap.size with h | h
   ·exact h
   ·rw [Array.getElem?_eq_none h] at hg; cases hg
  have hH2 : Go.Sort.Holds (Value.int .i64) e.W g 0 l.toArray := by
   intro j hj
   have hj' : j < l.length := by simpa using hj
   constructor
   ·unfold World.cell?
    simp only [hg, Option.isSome_none, Bool.false_eq_true, if_false, Nat.zero_add, hx j hj']
    rw [getElem!_pos l.toArray j hj]; simp
   ·unfold World.frozen?
    simp [hg]
  refine (hs g cap l e.W hH2 hlt hl).mono ?_
  rintro en w' ⟨rfl, n, os, rfl⟩
  have hsl : (srtL l).length = l.length := List.length_mergeSort l
  generalize hw : Go.Sort.grow (Go.Sort.putRow (Value.int .i64) (Go.Sort.ahead e.W n) g 0 (l.mergeSort fun x y => decide (x ≤ y)).toArray) os = w'
  have hgrow : ∀ b, b < e.W.heap.size → b ≠ g → w'.heap[b]? = e.W.heap[b]? := by
   intro b hb hne
   subst hw
   unfold Go.Sort.grow Go.Sort.putRow Go.Sort.mapBlock Go.Sort.ahead
   dsimp only
   rw [Array.getElem?_append_left (by simpa using hb), Array.getElem?_modify, if_neg (Ne.symm hne)]
  have hgg : w'.heap[g]? = some (.cells (Go.Sort.putCells (Value.int .i64) 0 (srtL l).toArray cur) E (0, 0)) := by
   subst hw
   unfold Go.Sort.grow Go.Sort.putRow Go.Sort.mapBlock Go.Sort.ahead
   dsimp only
   rw [Array.getElem?_append_left (by simpa using hlt), Array.getElem?_modify, if_pos rfl, hg]
   rfl
  have hsize : e.W.heap.size ≤ w'.heap.size := by subst hw; simp [Go.Sort.grow, Go.Sort.putRow, Go.Sort.mapBlock, Go.Sort.ahead]
  have h3 : Same3 e.W w' := by subst hw; exact ⟨rfl, rfl, rfl⟩
  have hblk : (Ob.row k E 1 (l.map tI)).blk e.ρ 0 = some g := by
   show (if (e.ρ 0 k).c = 0 then none else (e.ρ 0 k).a.map (·.block)) = some g
   rw [if_neg (by omega), ha]; rfl
  have hcells : (Go.Sort.putCells (Value.int .i64) 0 (srtL l).toArray cur).toList.take (l.length * 1) = (srtL l).map (Value.int .i64) := by
   apply List.ext_getElem?
   intro j
   rw [List.getElem?_take, Array.getElem?_toList]
   unfold Go.Sort.putCells
   rw [Array.getElem?_mapIdx, List.getElem?_map]
   by_cases hj : j < l.length
   ·have hj2 : j < (srtL l).length := by omega
    rw [if_pos (by omega), hx j hj, Option.map_some, if_pos (by simp; omega), Nat.sub_zero, getElem!_pos (srtL l).toArray j (by simpa using hj2), List.getElem?_eq_getElem hj2]
    simp
   ·rw [if_neg (by omega), List.getElem?_eq_none (by omega)]; rfl
  have hel : Elems (Frz w' e.Z) 1 ((srtL l).map tI) ((srtL l).map (Value.int .i64)) := by
   refine ⟨by simp, fun cs hcs => by obtain ⟨x, _, rfl⟩ := List.mem_map.1 hcs; rfl, fun i cs j x u hi hj hu => ?_⟩
   rw [List.getElem?_map] at hi
   cases hs' : (srtL l)[i]? with
   | none => rw [hs'] at hi; cases hi
   | some a =>
    rw [hs'] at hi
    cases hi
    cases j with
    | succ j => simp [tI] at hj
    | zero =>
     cases hj
     rw [Nat.mul_one, Nat.add_zero, List.getElem?_map, hs'] at hu
     cases hu
     exact .v rfl
  have ok' := ok.turn (i := 0) (o := .row k E 1 (l.map tI)) (o' := .row k E 1 ((srtL l).map tI)) (ρ' := e.ρ) (w' := w') rfl (Nat.le_refl _) (fun _ _ _ => rfl) h3 hsize
   (fun b hb hne => hgrow b hb (fun he => hne (by rw [hblk, he]))) ⟨h1, _, hel, by
    rw [List.length_map, hsl, ha, hcc]
    refine .inr ⟨by omega, ⟨by simp [hsl], .inr ⟨g, cap, _, rfl, hbg, hgg, hnc, hcm, ?_, ?_⟩⟩⟩
    ·simp [Go.Sort.putCells, hcs]
    ·exact hcells⟩ (fun b hb => .inl hb)
  exact ⟨.tuple #[], .tup [], _, e.ρ, e.Z, e.Y, rfl, ⟨rfl, rfl⟩, ok', .tup (us := []) rfl (fun j x u h => by simp at h)⟩
end
end Go.Proofs.Ytnibnbcmnaflmaa
namespace Go.Proofs.Ytnibnbcmnaflmaa
set_option linter.unusedVariables false
set_option linter.unusedSimpArgs false
set_option linter.unnecessarySimpa false
abbrev Wh := Int × Int × Int
def cnS9 (ws : List Wh) (q : Nat) : List Int := (ws.take q).foldl (fun M w => M.set w.1.toNat (M.getD w.1.toNat 0 + 1)) (List.replicate 11 0)
theorem cnS9_next {ws : List Wh} {q : Nat} {w : Wh} (h : ws[q]? = some w) : cnS9 ws (q + 1) = (cnS9 ws q).set w.1.toNat ((cnS9 ws q).getD w.1.toNat 0 + 1) := by
 unfold cnS9; rw [List.take_add_one, h, List.foldl_append]; rfl
theorem cnS9_stay {ws : List Wh} {q : Nat} (h : ws[q]? = none) : cnS9 ws (q + 1) = cnS9 ws q := by
 unfold cnS9; rw [List.take_add_one, h]; simp
theorem cnS9_len (ws : List Wh) : ∀ q, (cnS9 ws q).length = 11
 | 0 => by unfold cnS9; simp
 | q + 1 => by
  cases h : ws[q]? with
  | none => rw [cnS9_stay h]; exact cnS9_len ws q
  | some w => rw [cnS9_next h, List.length_set]; exact cnS9_len ws q
theorem cnS9_le (ws : List Wh) : ∀ (q i : Nat), 0 ≤ (cnS9 ws q).getD i 0 ∧ (cnS9 ws q).getD i 0 ≤ q
 | 0, i => by
  unfold cnS9
  simp only [List.take_zero, List.foldl_nil, List.getD_eq_getElem?_getD, List.getElem?_replicate]
  split <;> simp
 | q + 1, i => by
  have h0 := cnS9_le ws q i
  cases h : ws[q]? with
  | none => rw [cnS9_stay h]; omega
  | some w =>
   rw [cnS9_next h]
   have h1 := cnS9_le ws q w.1.toNat
   simp only [List.getD_eq_getElem?_getD, List.getElem?_set] at h0 h1 ⊢
   split
   ·split
    ·simp only [Option.getD_some]; omega
    ·simp only [Option.getD_none]; omega
   ·omega
def nodW (ws : List Wh) (q : Nat) : List Int := (ws.take q).filterMap fun w => if w.1 = 9 ∨ w.1 = 10 then some w.2.1 else none
theorem nodW_yes {ws : List Wh} {q : Nat} {w : Wh} (h : ws[q]? = some w) (hw : w.1 = 9 ∨ w.1 = 10) : nodW ws (q + 1) = nodW ws q ++ [w.2.1] := by
 unfold nodW; rw [List.take_add_one, h, List.filterMap_append]; simp [hw]
theorem nodW_no {ws : List Wh} {q : Nat} {w : Wh} (h : ws[q]? = some w) (hw : ¬ (w.1 = 9 ∨ w.1 = 10)) : nodW ws (q + 1) = nodW ws q := by
 unfold nodW; rw [List.take_add_one, h, List.filterMap_append]; simp [hw]
theorem nodW_len (ws : List Wh) (q : Nat) : (nodW ws q).length ≤ q := by
 have := List.length_filterMap_le (fun w : Wh => if w.1 = 9 ∨ w.1 = 10 then some w.2.1 else none) (ws.take q)
 rw [List.length_take] at this
 unfold nodW; omega
def plN (N : List Int) (v : Int) : Nat := (N.takeWhile fun x => decide (x < v)).length
def insN (N : List Int) (v : Int) : List Int := if v ∈ N then N else N.take (plN N v) ++ [v] ++ N.drop (plN N v)
def refW (ws : List Wh) (q : Nat) : List Int := (ws.take q).foldl (fun N w => if 9 ≤ w.1 then insN N w.2.1 else N) []
theorem refW_yes {ws : List Wh} {q : Nat} {w : Wh} (h : ws[q]? = some w) (hw : 9 ≤ w.1) : refW ws (q + 1) = insN (refW ws q) w.2.1 := by
 unfold refW; rw [List.take_add_one, h, List.foldl_append]; simp [hw]
theorem refW_no {ws : List Wh} {q : Nat} {w : Wh} (h : ws[q]? = some w) (hw : ¬ 9 ≤ w.1) : refW ws (q + 1) = refW ws q := by
 unfold refW; rw [List.take_add_one, h, List.foldl_append]; simp [hw]
theorem plN_le (N : List Int) (v : Int) : plN N v ≤ N.length := by
 unfold plN
 exact (List.takeWhile_sublist _).length_le
theorem plN_lt {N : List Int} {v : Int} {i : Nat} (h : i < plN N v) {x : Int} (hx : N[i]? = some x) : x < v := by
 unfold plN at h
 have h2 : (N.takeWhile fun x => decide (x < v))[i]? = some x := by
  rw [← hx]
  have := List.takeWhile_prefix (fun x => decide (x < v)) (l := N)
  obtain ⟨t, ht⟩ := this
  conv => rhs; rw [← ht]
  rw [List.getElem?_append_left h]
 have := List.mem_of_getElem? h2
 simpa using List.all_eq_true.1 List.all_takeWhile _ this
theorem plN_ge {N : List Int} {v : Int} {x : Int} (hx : N[plN N v]? = some x) : ¬ x < v := by
 induction N with
 | nil => simp at hx
 | cons a N ih =>
  unfold plN at hx ih
  by_cases h : a < v
  ·rw [List.takeWhile_cons_of_pos (by simpa using h), List.length_cons, List.getElem?_cons_succ] at hx
   exact ih hx
  ·rw [List.takeWhile_cons_of_neg (by simpa using h)] at hx
   simp at hx; subst hx; exact h
theorem plN_of {N : List Int} {v : Int} {k : Nat} (hk : k ≤ N.length) (h1 : ∀ i x, i < k → N[i]? = some x → x < v) (h2 : ∀ x, N[k]? = some x → ¬ x < v) : plN N v = k := by
 rcases Nat.lt_trichotomy (plN N v) k with h | h | h
 ·have hx : N[plN N v]? = some N[plN N v] := List.getElem?_eq_getElem (by omega)
  exact absurd (h1 _ _ h hx) (plN_ge hx)
 ·exact h
 ·have := plN_le N v
  have hx : N[k]? = some N[k] := List.getElem?_eq_getElem (by omega)
  exact absurd (plN_lt h hx) (h2 _ hx)
abbrev riN (N : List Int) : Prop := N.Pairwise (· < ·)
theorem insN_mem {N : List Int} {v z : Int} : z ∈ insN N v ↔ z = v ∨ z ∈ N := by
 unfold insN
 split
 ·rename_i h
  constructor
  ·exact .inr
  ·rintro (rfl | h2)
   ·exact h
   ·exact h2
 ·rw [List.mem_append, List.mem_append, List.mem_singleton]
  constructor
  ·rintro ((h | h) | h)
   ·exact .inr (List.mem_of_mem_take h)
   ·exact .inl h
   ·exact .inr (List.mem_of_mem_drop h)
  ·rintro (h | h)
   ·exact .inl (.inr h)
   ·rw [← List.take_append_drop (plN N v) N, List.mem_append] at h
    rcases h with h | h
    ·exact .inl (.inl h)
    ·exact .inr h
theorem insN_ri {N : List Int} {v : Int} (h : riN N) : riN (insN N v) := by
 unfold insN
 split
 ·exact h
 ·rename_i hv
  have hdn : ∀ y ∈ N.take (plN N v), y < v := by
   intro y hy
   obtain ⟨i, hi⟩ := List.getElem?_of_mem hy
   rw [List.getElem?_take] at hi
   split at hi
   ·rename_i hlt; exact plN_lt hlt hi
   ·cases hi
  have hup : ∀ y ∈ N.drop (plN N v), v < y := by
   intro y hy
   obtain ⟨i, hi⟩ := List.getElem?_of_mem hy
   rw [List.getElem?_drop] at hi
   have hne : y ≠ v := fun e => hv (e ▸ List.mem_of_getElem? hi)
   have hlt := (List.getElem?_eq_some_iff.1 hi).1
   have hx : N[plN N v]? = some N[plN N v] := List.getElem?_eq_getElem (by omega)
   have hg := plN_ge hx
   by_cases e : i = 0
   ·subst e
    rw [Nat.add_zero, hx] at hi; cases hi; omega
   ·have := List.pairwise_iff_getElem.1 h (plN N v) (plN N v + i) (by omega) hlt (by omega)
    rw [(List.getElem?_eq_some_iff.1 hi).2] at this
    omega
  rw [List.append_assoc]
  unfold riN
  rw [List.pairwise_append]
  refine ⟨h.sublist (List.take_sublist _ _), ?_, fun a ha b hb => ?_⟩
  ·rw [List.singleton_append, List.pairwise_cons]
   exact ⟨hup, h.sublist (List.drop_sublist _ _)⟩
  ·have h1 := hdn a ha
   rw [List.singleton_append] at hb
   rcases List.mem_cons.1 hb with e | hb
   ·subst e; exact h1
   ·have := hup b hb; omega
theorem riN_eq : ∀ {a b : List Int}, riN a → riN b → (∀ x, x ∈ a ↔ x ∈ b) → a = b
 | [], [], _, _, _ => rfl
 | [], y :: b, _, _, h => absurd ((h y).2 List.mem_cons_self) (by simp)
 | x :: a, [], _, _, h => absurd ((h x).1 List.mem_cons_self) (by simp)
 | x :: a, y :: b, ha, hb, h => by
  unfold riN at ha hb
  rw [List.pairwise_cons] at ha hb
  have hxy : x = y := by
   rcases List.mem_cons.1 ((h x).1 List.mem_cons_self) with e | hx
   ·exact e
   ·rcases List.mem_cons.1 ((h y).2 List.mem_cons_self) with e | hy
    ·exact e.symm
    ·have h1 := ha.1 y hy
     have h2 := hb.1 x hx
     omega
  subst hxy
  rw [riN_eq ha.2 hb.2 fun z => ⟨fun hz => ?_, fun hz => ?_⟩]
  ·rcases List.mem_cons.1 ((h z).1 (List.mem_cons_of_mem _ hz)) with e | q
   ·have := ha.1 z hz; subst e; omega
   ·exact q
  ·rcases List.mem_cons.1 ((h z).2 (List.mem_cons_of_mem _ hz)) with e | q
   ·have := hb.1 z hz; subst e; omega
   ·exact q
theorem cmQ_inv {l : List Int} (hs : l.Pairwise (· ≤ ·)) : ∀ q, q ≤ l.length → riN (cmQ l q) ∧ ∀ z, z ∈ cmQ l q ↔ z ∈ l.take q
 | 0, _ => ⟨List.Pairwise.nil, fun z => by simp [cmQ]⟩
 | q + 1, hq => by
  obtain ⟨h1, h2⟩ := cmQ_inv hs q (by omega)
  have hx : l[q]? = some l[q] := List.getElem?_eq_getElem (by omega)
  by_cases h0 : q = 0
  ·subst h0
   rw [cmQ_one hx, List.take_add_one, hx]
   exact ⟨List.pairwise_singleton _ _, fun z => by simp⟩
  ·have hy : l[q - 1]? = some l[q - 1] := List.getElem?_eq_getElem (by omega)
   have hle := List.pairwise_iff_getElem.1 hs (q - 1) q (by omega) (by omega) (by omega)
   by_cases e : l[q] = l[q - 1]
   ·rw [cmQ_no (by omega) hx (by rw [hy, e]), List.take_add_one, hx]
    refine ⟨h1, fun z => ?_⟩
    rw [h2, List.mem_append]
    constructor
    ·exact .inl
    ·rintro (h | h)
     ·exact h
     ·simp at h
      subst h
      rw [e]
      exact List.mem_of_getElem? (i := q - 1) (by rw [List.getElem?_take, if_pos (by omega)]; exact hy)
   ·rw [cmQ_yes hx hy e, List.take_add_one, hx]
    refine ⟨?_, fun z => ?_⟩
    ·unfold riN
     rw [List.pairwise_append]
     refine ⟨h1, List.pairwise_singleton _ _, fun a ha b hb => ?_⟩
     simp at hb; subst hb
     obtain ⟨i, hi⟩ := List.getElem?_of_mem ((h2 a).1 ha)
     rw [List.getElem?_take] at hi
     split at hi
     ·rename_i hlt
      have h3 : a ≤ l[q - 1] := by
       by_cases ei : i = q - 1
       ·subst ei; rw [hy] at hi; cases hi; exact Int.le_refl _
       ·have := List.pairwise_iff_getElem.1 hs i (q - 1) (by omega) (by omega) (by omega)
        rw [(List.getElem?_eq_some_iff.1 hi).2] at this
        exact this
      omega
     ·cases hi
    ·rw [List.mem_append, List.mem_append, h2]
     simp
theorem srtL_le (l : List Int) : (srtL l).Pairwise (· ≤ ·) := by
 have := List.pairwise_mergeSort (le := fun x y : Int => decide (x ≤ y)) (fun a b c h1 h2 => by simp at *; omega) (fun a b => by simp; omega) l
 exact this.imp fun h => by simpa using h
theorem srtL_mem {l : List Int} {z : Int} : z ∈ srtL l ↔ z ∈ l := List.mem_mergeSort
theorem srtL_len (l : List Int) : (srtL l).length = l.length := List.length_mergeSort _
theorem refW_inv {ws : List Wh} (h : ∀ w ∈ ws, w.1 ≤ 10) : ∀ q, q ≤ ws.length → riN (refW ws q) ∧ ∀ z, z ∈ refW ws q ↔ z ∈ nodW ws q
 | 0, _ => ⟨List.Pairwise.nil, fun z => by simp [refW, nodW]⟩
 | q + 1, hq => by
  obtain ⟨h1, h2⟩ := refW_inv h q (by omega)
  have hx : ws[q]? = some ws[q] := List.getElem?_eq_getElem (by omega)
  have hb := h _ (List.mem_of_getElem? hx)
  by_cases e : 9 ≤ (ws[q]).1
  ·rw [refW_yes hx e, nodW_yes hx (by omega)]
   refine ⟨insN_ri h1, fun z => ?_⟩
   rw [insN_mem, h2, List.mem_append, List.mem_singleton, or_comm]
  ·rw [refW_no hx e, nodW_no hx (by omega)]
   exact ⟨h1, h2⟩
theorem nodes_eq {ws : List Wh} (h : ∀ w ∈ ws, w.1 ≤ 10) : cmQ (srtL (nodW ws ws.length)) (srtL (nodW ws ws.length)).length = refW ws ws.length := by
 obtain ⟨h1, h2⟩ := cmQ_inv (srtL_le (nodW ws ws.length)) _ (Nat.le_refl _)
 obtain ⟨h3, h4⟩ := refW_inv h _ (Nat.le_refl _)
 refine riN_eq h1 h3 fun z => ?_
 rw [h2, List.take_length, srtL_mem, h4]
theorem refW_len {ws : List Wh} : ∀ q, (refW ws q).length ≤ q
 | 0 => by simp [refW]
 | q + 1 => by
  have h1 := refW_len (ws := ws) q
  cases hx : ws[q]? with
  | none =>
   have : refW ws (q + 1) = refW ws q := by unfold refW; rw [List.take_add_one, hx]; simp
   rw [this]; omega
  | some w =>
   by_cases e : 9 ≤ w.1
   ·rw [refW_yes hx e]
    unfold insN
    split
    ·omega
    ·have := plN_le (refW ws q) w.2.1
     simp only [List.length_append, List.length_take, List.length_drop, List.length_singleton]; omega
   ·rw [refW_no hx e]; omega
end Go.Proofs.Ytnibnbcmnaflmaa
