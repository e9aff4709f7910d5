/- Joined: XTPut, XTPutU, XTObjP, XTDone, XTCloneR, XTFifo, XTObjW. -/
import Derived.Test.YtnfbggpkiekpdaaKR15h
import Derived.Test.YtnfbggpkiekpdaaKR15l
import Derived.Test.YtnfbggpkiekpdaaKR15d
import Derived.Test.YtnfbggpkiekpdaaKR15j
import Derived.Test.YtnfbggpkiekpdaaKR15e
namespace Go.Proofs.Ytnfbggpkiekpdaa
open Go.RowKit
set_option linter.unusedVariables false
set_option linter.unusedSimpArgs false
set_option linter.unnecessarySimpa false
set_option maxRecDepth 100000
set_option maxHeartbeats 64000000
section
attribute [local irreducible] AL AW RG Fin C Cd Cio thenQ blockQ retQ
set_option maxRecDepth 100000
attribute [local simp] wpad_len
theorem wpad_eq {l : List Int} {n : Nat} (h : l.length ≤ n) : wpad l n = l ++ List.replicate (n - l.length) 0 := by
 refine List.ext_getElem? fun i => ?_
 by_cases hi : i < n
 ·rw [wpad_get l hi, List.getD_eq_getElem?_getD]
  by_cases hl : i < l.length
  ·rw [List.getElem?_append_left hl, List.getElem?_eq_getElem hl]; rfl
  ·rw [List.getElem?_append_right (by omega), List.getElem?_replicate, if_pos (by omega), List.getElem?_eq_none (by omega)]; rfl
 ·rw [List.getElem?_eq_none (by simp; omega), List.getElem?_eq_none (by simp; omega)]
theorem crow_c (l : List Int) (n k m : Nat) (o : List Int) (hm : m = o.length) (hv : ∀ x ∈ l, 0 ≤ x ∧ x ≤ 4294967295) (hl : l.length ≤ 1000000) (hb : o.length + n ≤ 1000000) :
  Cio Try.prog 112 [.sl 0 k m, .ln (l.map tI), i64 n] [.row k 69 1 (o.map tU)] (.sl 0 (k + n) (m + n)) [.row (k + n) 69 1 ((o ++ wpad l n).map tU)] := by
 subst hm
 have h1 : (l.map tI).length = l.length := List.length_map _
 refine Cio.enter' Try.func112 rfl Try.ntmps112 rfl qM ?_
 repeat' (first | refine uA ?_ | refine uC ?_ | fail)
 refine AW.loopP (fun (i : Nat) => i ≤ n) (fun (i : Nat) => (pu (pu (pu (pu (fun _ => .any) 0 (.sl 0 (k + i) (o.length + i))) 1 (.ln (l.map tI))) 9 (i64 n)) 10 (i64 i))) (fun (i : Nat) => [.row (k + i) 69 1 ((o ++ wpad l i).map tU)]) (fun (i : Nat) => n - i) (0) ?_ ?_ ?_
 ·exact Nat.zero_le _
 ·rw [show o ++ wpad l 0 = o by simp [wpad]]
  exact Wk.cq 1
 ·intro i h2
  have hL : (o ++ wpad l i).length = o.length + i := by simp
  by_cases hi : i < n
  ·by_cases hj : i < l.length
   ·obtain ⟨a, ha⟩ : ∃ a, l[i]? = some a := ⟨_, List.getElem?_eq_getElem hj⟩
    have hva := hv a (List.mem_of_getElem? ha)
    have hs : o ++ wpad l (i + 1) = (o ++ wpad l i) ++ [a] := by rw [wpad_succ, List.getD_eq_getElem?_getD, ha, List.append_assoc]; rfl
    repeat' (first | ((with_reducible refine kAL ?_); (first | (refine kL 815 rfl ?_; first | refine A_lit rfl rfl 25 1 _ rfl ud25 inf69 (.cons rfl .nil) (els := [[_]]) rfl (by exact (rfl : _ = List.map tU [_])) rfl (Nat.ne_of_beq_eq_false rfl) (Nat.le_of_ble_eq_true rfl) (Nat.le_of_ble_eq_true rfl) (.push qL qN) ?_) | refine uA ?_)) | refine uC ?_ | fail)
    all_goals first | (exfalso; omega) | skip
    refine ⟨i + 1, by omega, by omega, ?_⟩
    rw [hs]
    exact Wk.cq 1
   ·have hs : o ++ wpad l (i + 1) = (o ++ wpad l i) ++ [0] := by rw [wpad_succ, List.getD_eq_getElem?_getD, List.getElem?_eq_none (by omega), List.append_assoc]; rfl
    repeat' (first | ((with_reducible refine kAL ?_); (first | (refine kL 815 rfl ?_; first | refine A_lit rfl rfl 25 1 _ rfl ud25 inf69 (.cons rfl .nil) (els := [[_]]) rfl (by exact (rfl : _ = List.map tU [_])) rfl (Nat.ne_of_beq_eq_false rfl) (Nat.le_of_ble_eq_true rfl) (Nat.le_of_ble_eq_true rfl) (.push qL qN) ?_) | refine uA ?_)) | refine uC ?_ | fail)
    all_goals first | (exfalso; omega) | skip
    refine ⟨i + 1, by omega, by omega, ?_⟩
    rw [hs]
    exact Wk.cq 1
  ·obtain rfl : i = n := by omega
   repeat' (first | refine uA ?_ | refine uC ?_ | fail)
   all_goals first | (exfalso; omega) | (exact Fin.q Try.results112 (.cons (.tmp rfl) .nil) [])
theorem crow_n (l : List Int) (cap : Int) (n k m : Nat) (o : List Int) (hc : cap = n) (hm : m = o.length) (hv : ∀ x ∈ l, 0 ≤ x ∧ x ≤ 4294967295) (hl : l.length ≤ 1000000) (hb : o.length + n ≤ 1000000) :
  Cio Try.prog 112 [.sl 0 k m, .ln (l.map tI), i64 cap] [.row k 69 1 (o.map tU)] (.sl 0 (k + n) (m + n)) [.row (k + n) 69 1 ((o ++ wpad l n).map tU)] := by subst hc; exact crow_c l n k m o hm hv hl hb
theorem cresults_c (l : List Rst) (k m : Nat) (o : List Int) (hm : m = o.length) (hl : l.length ≤ 1000000) (hb : o.length + l.length ≤ 1000000) :
  Cio Try.prog 115 [.sl 0 k m, .ln (l.map tR)] [.row k 69 1 (o.map tU)] (.sl 0 (k + l.length) (m + l.length)) [.row (k + l.length) 69 1 ((o ++ l.map wordR).map tU)] := by
 subst hm
 have h1 : (l.map tR).length = l.length := List.length_map _
 refine Cio.enter' Try.func115 rfl Try.ntmps115 rfl qM ?_
 repeat' (first | refine uA ?_ | refine uC ?_ | fail)
 refine AW.loopP (fun (i : Nat) => i ≤ l.length) (fun (i : Nat) => (pu (pu (pu (pu (fun _ => .any) 0 (.sl 0 (k + i) (o.length + i))) 7 (.ln (l.map tR))) 8 (i64 (l.map tR).length)) 9 (i64 i))) (fun (i : Nat) => [.row (k + i) 69 1 ((o ++ (l.take i).map wordR).map tU)]) (fun (i : Nat) => l.length - i) (0) ?_ ?_ ?_
 ·exact Nat.zero_le _
 ·rw [show o ++ (l.take 0).map wordR = o by simp]
  exact Wk.cq 1
 ·intro i h2
  have hL : (o ++ (l.take i).map wordR).length = o.length + i := by simp; omega
  by_cases hi : i < l.length
  ·obtain ⟨a, ha⟩ : ∃ a, l[i]? = some a := ⟨_, List.getElem?_eq_getElem hi⟩
   have hs : o ++ (l.take (i + 1)).map wordR = (o ++ (l.take i).map wordR) ++ [wordR a] := by rw [List.take_add_one, ha]; simp
   repeat' (first | ((with_reducible refine kAL ?_); (first | (refine kL 4138 rfl ?_; first | refine uK (presult_c a) ?_) | (refine kL 815 rfl ?_; first | refine A_lit rfl rfl 25 1 _ rfl ud25 inf69 (.cons rfl .nil) (els := [[_]]) rfl (by exact (rfl : _ = List.map tU [_])) rfl (Nat.ne_of_beq_eq_false rfl) (Nat.le_of_ble_eq_true rfl) (Nat.le_of_ble_eq_true rfl) (.push qL qN) ?_) | refine uA ?_)) | refine uC ?_ | fail)
   all_goals first | (exfalso; omega) | skip
   refine ⟨i + 1, by omega, by omega, ?_⟩
   rw [hs]
   exact Wk.cq 1
  ·obtain rfl : i = l.length := by omega
   repeat' (first | refine uA ?_ | refine uC ?_ | fail)
   all_goals first | (exfalso; omega) | ((refine Fin.mkv (rs := _) Try.results115 (.cons (.tmp rfl) .nil) [] (by decide) rfl ?_ ?_ ?_ <;> repeat' (skip; first | exact .nil | refine .cons rfl ?_ ?_ | refine .cons ?_ ?_ | refine .row ?_ | refine .rset ?_ | refine .box ?_ | exact .gone | refine .aggL ?_ | refine .tupL ?_ | refine .old rfl ?_ | refine .new rfl rfl rfl ?_ | exact .nl | exact .optr rfl | exact .nptr rfl rfl rfl | refine .t ?_ | exact .any _ | rfl)))
   all_goals (rw [List.take_length])
theorem flag_c (b : Bool) : Cd Try.prog 114 [bo b] (u64 (bitI b)) [] := by
 cases b
 all_goals
  refine Cd.enter' Try.func114 rfl Try.ntmps114 rfl ?_
  repeat' (first | refine uA ?_ | refine uC ?_ | fail)
  all_goals (exact Fin.q Try.results114 (.cons (.tmp rfl) .nil) [])
theorem head_c (x : DChan) (cap : Int) (hc : cap ≤ 15) (h : chanOK cap x = true) : Cd Try.prog 113 [aCh x] (u64 (headC x)) [] := by
 obtain ⟨h1, h2, ⟨h3, h4⟩, _⟩ := chanOK_iff.1 h
 have g1 : (x.buf.map tI).length = x.buf.length := List.length_map _
 have b1 := bitI_b x.used
 have b2 := bitI_b x.closed
 have c1 := flag_c x.used
 have c2 := flag_c x.closed
 unfold headC
 refine Cd.enter' Try.func113 rfl Try.ntmps113 rfl ?_
 repeat' (first | refine uA ?_ | ((with_reducible refine kRG ?_); (first | (refine kR 2217 rfl ?_; first | refine R_shl rfl rfl 69 78 _ _ rfl rfl rfl (by decide) (shl_lit (m := 4096) rfl (by exact wu)) ?_ | refine R_bits rfl rfl .or 69 69 _ _ rfl rfl rfl rfl (or_sum' 12 (M := 4096) rfl (by omega) (by omega) (by omega) (by omega) (by omega) (by omega)) ?_ | refine R_bits rfl rfl .or 69 69 _ _ rfl rfl rfl rfl (or_sum' 16 (M := 65536) rfl (by omega) (by omega) (by omega) (by omega) (by omega) (by omega)) ?_ | refine R_bits rfl rfl .or 69 69 _ _ rfl rfl rfl rfl (or_sum' 17 (M := 131072) rfl (by omega) (by omega) (by omega) (by omega) (by omega) (by omega)) ?_ | refine R_bits rfl rfl .or 69 69 _ _ rfl rfl rfl rfl (or_sum' 20 (M := 1048576) rfl (by omega) (by omega) (by omega) (by omega) (by omega) (by omega)) ?_ | refine R_shl rfl rfl 69 78 _ _ rfl rfl rfl (by decide) (shl_lit (m := 65536) rfl (by exact wu)) ?_ | refine R_shl rfl rfl 69 78 _ _ rfl rfl rfl (by decide) (shl_lit (m := 131072) rfl (by exact wu)) ?_ | refine R_shl rfl rfl 69 78 _ _ rfl rfl rfl (by decide) (shl_lit (m := 1048576) rfl (by exact wu)) ?_) | (refine kR 3658 rfl ?_; first | refine uQ (c1) 0 ?_ | refine uQ (c2) 0 ?_) | refine uR ?_)) | refine uC ?_ | refine AW.drawU (id := 1) mixed 0 qR ?_ | fail)
 all_goals first | (exfalso; omega) | (refine Fin.q Try.results113 (.cons (.tmp rfl) .nil) [] (hr := (.t ?_)))
 all_goals (refine congrArg (fun z => Tr.v (Value.int IntKind.u64 z)) ?_; omega)
def callW (q : DReq) (ph : Int) : List Int := (q.kind + 256 * q.cases.length + 65536 * q.arg + 4294967296 * q.value) :: (wpad (q.cases.map wordK) 3 ++ [ph])
theorem fitQ_iff {q : DReq} : fitQ q = true ↔ (1 ≤ q.kind ∧ q.kind ≤ 9) ∧ (0 ≤ q.arg ∧ q.arg ≤ 65535) ∧ (0 ≤ q.value ∧ q.value ≤ 4294967295) ∧ q.cases.length ≤ 3 ∧ ∀ k ∈ q.cases, caseOK k = true := by
 unfold fitQ; simp only [Bool.and_eq_true, decide_eq_true_eq, List.all_eq_true, inI_iff, and_assoc]
def callA (hd : Int) (l : List DCase) (i : Nat) : List Int := hd :: (l.take i).map wordK
def callB (hd : Int) (l : List DCase) (j : Nat) : List Int := hd :: (l.map wordK ++ List.replicate j 0)
theorem pCall_c (q : DReq) (ph : Int) (hq : fitQ q = true) (hd : q.dflt = false) (hp : 0 ≤ ph ∧ ph ≤ 4294967295) : Cd Try.prog 90 [aRq q, i64 ph] (.t (.lst ((callW q ph).map tU))) [] := by
 obtain ⟨g1, g2, g3, g4, g5⟩ := fitQ_iff.1 hq
 have c1 := pFits_c q (by omega)
 rw [hq] at c1
 have c2 := pfits_c ph 32 4294967296 (by decide) (by decide)
 rw [show fitI ph 4294967296 = true from decide_eq_true (by omega)] at c2
 have h1 : (q.cases.map tCs).length = q.cases.length := List.length_map _
 unfold callW
 rw [wpad_eq (by simpa using g4), List.length_map]
 obtain ⟨kd, ar, vl, df, l⟩ := q
 dsimp only at *
 subst hd
 generalize hH : kd + 256 * (l.length : Int) + 65536 * ar + 4294967296 * vl = hd0
 have hH2 : kd + ((l.map tCs).length : Int) * 256 + ar * 65536 + vl * 4294967296 = hd0 := by omega
 refine Cd.enter' Try.func90 rfl Try.ntmps90 rfl ?_
 repeat' (first | ((with_reducible refine kAL ?_); (first | (refine kL 3402 rfl ?_; first | refine uK (c1) ?_) | (refine kL 3434 rfl ?_; first | refine uK (c2) ?_) | (refine kL 2217 rfl ?_; first | refine A_shl rfl rfl 69 78 _ _ rfl rfl rfl (by decide) (shl_lit (m := 256) rfl (by exact wu)) ?_ | refine A_bits rfl rfl .or 69 69 _ _ rfl rfl rfl rfl (or_sum' 8 (M := 256) rfl (by omega) (by omega) (by omega) (by omega) (by omega) (by omega)) ?_ | refine A_bits rfl rfl .or 69 69 _ _ rfl rfl rfl rfl (or_sum' 16 (M := 65536) rfl (by omega) (by omega) (by omega) (by omega) (by omega) (by omega)) ?_ | refine A_bits rfl rfl .or 69 69 _ _ rfl rfl rfl rfl (or_sum' 32 (M := 4294967296) rfl (by omega) (by omega) (by omega) (by omega) (by omega) (by omega)) ?_ | refine A_shl rfl rfl 69 78 _ _ rfl rfl rfl (by decide) (shl_lit (m := 65536) rfl (by exact wu)) ?_ | refine A_shl rfl rfl 69 78 _ _ rfl rfl rfl (by decide) (shl_lit (m := 4294967296) rfl (by exact wu)) ?_) | (refine kL 815 rfl ?_; first | refine A_lit rfl rfl 25 1 _ rfl ud25 inf69 (.cons rfl .nil) (els := [[_]]) rfl (by exact (rfl : _ = List.map tU [_])) rfl (Nat.ne_of_beq_eq_false rfl) (Nat.le_of_ble_eq_true rfl) (Nat.le_of_ble_eq_true rfl) (.push qL qN) ?_) | refine uA ?_)) | refine uC ?_ | fail)
 all_goals first | (exfalso; omega) | skip
 refine AW.loopP (fun (i : Nat) => i ≤ l.length) (fun (i : Nat) => (pu (pu (pu (pu (pu (fun _ => .any) 1 (i64 ph)) 6 (.sl 1 i (1 + i))) 43 (.ln (l.map tCs))) 44 (i64 (l.map tCs).length)) 45 (i64 i))) (fun (i : Nat) => [.box 63 [i64 kd, i64 ar, i64 vl, bo false, .ln (l.map tCs)], .row i 69 1 ((callA hd0 l i).map tU)]) (fun (i : Nat) => l.length - i) (0) ?_ ?_ ?_
 ·exact Nat.zero_le _
 ·rw [show callA hd0 l 0 = [hd0] from rfl, ← hH2]
  exact Wk.cq 2
 ·intro i h2
  have hL : (callA hd0 l i).length = 1 + i := by simp [callA]; omega
  by_cases hi : i < l.length
  ·obtain ⟨a, ha⟩ : ∃ a, l[i]? = some a := ⟨_, List.getElem?_eq_getElem hi⟩
   have hk := caseOK_iff.1 (g5 a (List.mem_of_getElem? ha))
   have hw : wordK a = a.dir + a.handle * 256 + a.value * 4294967296 := by unfold wordK; omega
   have hs : callA hd0 l (i + 1) = callA hd0 l i ++ [a.dir + a.handle * 256 + a.value * 4294967296] := by unfold callA; rw [List.take_add_one, ha, ← hw]; simp
   repeat' (first | ((with_reducible refine kAL ?_); (first | (refine kL 2217 rfl ?_; first | refine A_shl rfl rfl 69 78 _ _ rfl rfl rfl (by decide) (shl_lit (m := 256) rfl (by exact wu)) ?_ | refine A_bits rfl rfl .or 69 69 _ _ rfl rfl rfl rfl (or_sum' 8 (M := 256) rfl (by omega) (by omega) (by omega) (by omega) (by omega) (by omega)) ?_ | refine A_bits rfl rfl .or 69 69 _ _ rfl rfl rfl rfl (or_sum' 32 (M := 4294967296) rfl (by omega) (by omega) (by omega) (by omega) (by omega) (by omega)) ?_ | refine A_shl rfl rfl 69 78 _ _ rfl rfl rfl (by decide) (shl_lit (m := 4294967296) rfl (by exact wu)) ?_) | (refine kL 815 rfl ?_; first | refine A_lit rfl rfl 25 1 _ rfl ud25 inf69 (.cons rfl .nil) (els := [[_]]) rfl (by exact (rfl : _ = List.map tU [_])) rfl (Nat.ne_of_beq_eq_false rfl) (Nat.le_of_ble_eq_true rfl) (Nat.le_of_ble_eq_true rfl) (.push qL qN) ?_) | refine uA ?_)) | refine uC ?_ | fail)
   all_goals first | (exfalso; omega) | skip
   refine ⟨i + 1, by omega, by omega, ?_⟩
   rw [hs]
   exact Wk.cq 2
  ·obtain rfl : i = l.length := by omega
   repeat' (first | refine uA ?_ | refine uC ?_ | fail)
   all_goals first | (exfalso; omega) | skip
   refine AW.loopP (fun (j : Nat) => l.length + j ≤ 3) (fun (j : Nat) => (pu (pu (fun _ => .any) 1 (i64 ph)) 6 (.sl 1 (l.length + j) (1 + l.length + j)))) (fun (j : Nat) => [.box 63 [i64 kd, i64 ar, i64 vl, bo false, .ln (l.map tCs)], .row (l.length + j) 69 1 ((callB hd0 l j).map tU)]) (fun (j : Nat) => 3 - j) (0) ?_ ?_ ?_
   ·omega
   ·rw [show callB hd0 l 0 = callA hd0 l l.length by simp [callA, callB]]
    exact Wk.cq 2
   ·intro j h3
    have hL2 : (callB hd0 l j).length = 1 + l.length + j := by simp [callB]; omega
    by_cases hj : l.length + j < 3
    ·have hs : callB hd0 l (j + 1) = callB hd0 l j ++ [0] := by unfold callB; rw [List.replicate_succ']; simp
     repeat' (first | ((with_reducible refine kAL ?_); (first | (refine kL 815 rfl ?_; first | refine A_lit rfl rfl 25 1 _ rfl ud25 inf69 (.cons rfl .nil) (els := [[_]]) rfl (by exact (rfl : _ = List.map tU [_])) rfl (Nat.ne_of_beq_eq_false rfl) (Nat.le_of_ble_eq_true rfl) (Nat.le_of_ble_eq_true rfl) (.push qL qN) ?_) | refine uA ?_)) | refine uC ?_ | fail)
     all_goals first | (exfalso; omega) | skip
     refine ⟨j + 1, by omega, by omega, ?_⟩
     rw [hs]
     exact Wk.cq 2
    ·obtain rfl : j = 3 - l.length := by omega
     repeat' (first | ((with_reducible refine kAL ?_); (first | (refine kL 1 rfl ?_; first | ((first | refine A_as (d := 4) rfl rfl rfl rfl ?_ | refine A_move (d := 4) rfl rfl _ (.inr rfl) (y := .sl _ _ _) rfl ?_ | refine A_move (d := 4) rfl rfl _ (.inr rfl) (y := .nl) rfl ?_ | refine A_move (d := 4) rfl rfl _ (.inr rfl) (y := .ptr _ _) rfl ?_ | refine A_move (d := 4) rfl rfl _ (.inr rfl) (y := .ln _) rfl ?_ | refine A_move (d := 4) rfl rfl _ (.inr rfl) (y := .lp _) rfl ?_ | refine A_move (d := 4) rfl rfl _ (.inr rfl) (y := .fn _ _ _) rfl ?_ | refine A_move (d := 4) rfl rfl _ (.inr rfl) (y := .sub _ _ _ _) rfl ?_ | refine A_move (d := 4) rfl rfl _ (.inr rfl) (y := .rp _ _ _ _) rfl ?_ | refine A_move (d := 4) rfl rfl _ (.inr rfl) (y := .agg _) rfl ?_ | refine A_move (d := 4) rfl rfl _ (.inr rfl) (y := .tup _) rfl ?_); (try refine uf 1 4 ?_))) | (refine kL 12 rfl ?_; first | refine A_append_nlsub rfl rfl _ _ 25 rfl ud25 inf69 rfl rfl rfl rfl (by (try simp only [List.length_map, List.length_append, List.length_cons, List.length_nil]); omega) qB qB List.map_drop.symm (.push qL qN) ?_) | (refine kL 2217 rfl ?_; first | refine A_shl rfl rfl 69 78 _ _ rfl rfl rfl (by decide) (shl_lit (m := 256) rfl (by first | exact wi | exact wu)) ?_ | refine A_bits rfl rfl .or 69 69 _ _ rfl rfl rfl rfl (or_sum 8 (M := 256) rfl (by omega) (by omega) (by omega) (by omega) (by omega) (by omega)) ?_ | refine A_bits rfl rfl .or 69 69 _ _ rfl rfl rfl rfl (or_sum' 8 (M := 256) rfl (by omega) (by omega) (by omega) (by omega) (by omega) (by omega)) ?_ | refine A_bits rfl rfl .or 69 69 _ _ rfl rfl rfl rfl (or_sum 16 (M := 65536) rfl (by omega) (by omega) (by omega) (by omega) (by omega) (by omega)) ?_ | refine A_bits rfl rfl .or 69 69 _ _ rfl rfl rfl rfl (or_sum' 16 (M := 65536) rfl (by omega) (by omega) (by omega) (by omega) (by omega) (by omega)) ?_ | refine A_bits rfl rfl .or 69 69 _ _ rfl rfl rfl rfl (or_sum 32 (M := 4294967296) rfl (by omega) (by omega) (by omega) (by omega) (by omega) (by omega)) ?_ | refine A_bits rfl rfl .or 69 69 _ _ rfl rfl rfl rfl (or_sum' 32 (M := 4294967296) rfl (by omega) (by omega) (by omega) (by omega) (by omega) (by omega)) ?_ | refine A_shl rfl rfl 69 78 _ _ rfl rfl rfl (by decide) (shl_lit (m := 65536) rfl (by first | exact wi | exact wu)) ?_ | refine A_shl rfl rfl 69 78 _ _ rfl rfl rfl (by decide) (shl_lit (m := 4294967296) rfl (by first | exact wi | exact wu)) ?_ | refine A_shl rfl rfl 69 78 _ _ rfl rfl rfl (by first | decide | omega) rfl ?_ | refine A_bits rfl rfl .or 69 69 _ _ rfl rfl rfl rfl rfl ?_) | (refine kL 815 rfl ?_; first | refine A_lit rfl rfl 25 1 _ rfl ud25 inf69 (.cons rfl .nil) (els := [[_]]) rfl (by first | exact (rfl : _ = List.map tU [_]) | exact qN) rfl (Nat.ne_of_beq_eq_false rfl) (Nat.le_of_ble_eq_true rfl) (Nat.le_of_ble_eq_true rfl) (.push qL qN) ?_) | refine uA ?_ | refine uS 12 (fun hb => ?_) (fun hb => ?_))) | refine uC ?_ | refine kcp rfl (fun hc => ?_) (fun hc => ?_) | refine kcn rfl (fun hc => ?_) (fun hc => ?_) | refine kcb rfl (fun hc => ?_) (fun hc => ?_) | refine kcc rfl (fun hc => ?_) (fun hc => ?_) | fail)
     all_goals first | (exfalso; omega) | (exact Fin.q Try.results90 (.cons (.tmp rfl) .nil) [])
     all_goals (simp [callB]; done)
end
section
end
section
theorem n_v : (0 : Int) ≤ 0 ∧ (0 : Int) ≤ 4294967295 := by decide
theorem n_k : (0 : Int) ≤ 0 ∧ (0 : Int) < 16 := by decide
structure GOk (cap : Int) (g : DG) : Prop where
 c : chanOK cap g.c = true
 l : ∀ w ∈ g.l, waitOK w = true
 t : ∀ x ∈ g.told, goodR x.result = true
 v : 0 ≤ g.r.value ∧ g.r.value ≤ 4294967295
 e : 0 ≤ g.r.code ∧ g.r.code < 256
structure Fh (c : DConf) (h : DHall) : Prop where
 tk : 0 ≤ h.ticket ∧ h.ticket ≤ 4294967295
 ch : ∀ x ∈ h.chans, chanOK c.cap x = true
 w : ∀ w ∈ h.waits, waitOK w = true
 d : ∀ r ∈ h.done, goodR r = true
structure Fru (r : Rst) : Prop where
 v : 0 ≤ r.value ∧ r.value ≤ 4294967295
 e : 0 ≤ r.code ∧ r.code < 256
 k : 0 ≤ r.cas ∧ r.cas < 16
theorem Fru.code {e : Int} (h : 0 ≤ e ∧ e < 256) : Fru ⟨0, 0, e, 0⟩ := ⟨n_v, h, n_k⟩
theorem chkC_gens {c : DConf} (h : chkC c = true) (k : c.kind = 3) : 1 ≤ c.gens ∧ c.gens ≤ 4095 ∧ (c.start.length : Int) ≤ c.chans ∧ ∀ n ∈ c.start, 0 ≤ n ∧ n ≤ c.cap := by
 unfold chkC at h
 simp only [Bool.and_eq_true] at h
 have o := h.2
 unfold ownC at o
 rw [if_neg (by omega), if_pos k] at o
 simp only [Bool.and_eq_true, inI_iff, decide_eq_true_eq, Bool.not_eq_true', List.any_eq_false, Bool.not_eq_false'] at o
 refine ⟨o.1.1.2.1, o.1.1.2.2, o.1.2, fun n hn => ?_⟩
 have := o.2 n hn
 simpa [inI] using this
theorem fitsH_start {c : DConf} (k : chkC c = true) (k3 : c.kind = 3) : fitsH c (startH c) = true := by
 have sh := chkC_shaped k
 obtain ⟨s1, s2, s3, s4⟩ := sh.h3 k3
 obtain ⟨g1, g2, g3, g4⟩ := chkC_gens k k3
 have hp : ((plN c : Nat) : Int) = c.chans := by unfold plN; omega
 have ht : ((thN c : Nat) : Int) = c.threads := by have := sh.t0; have := sh.t1; unfold thN; omega
 have ln := startH_ln c
 refine fitsH_iff.2 ⟨k, k3, n_v, by rw [ln.c]; exact hp, by rw [ln.w]; exact ht, ⟨by rw [ln.d]; exact ht, fun r hr => ?_⟩, fun x hx => ?_, fun w hw => ?_⟩
 ·rw [List.eq_of_mem_replicate hr]; decide
 ·change x ∈ stC c.start (plN c) (plN c) at hx
  unfold stC at hx
  obtain ⟨j, -, rfl⟩ := List.mem_map.1 hx
  rw [chanOK_iff]
  split
  ·rename_i hj
   have := g4 _ (getD_mem (d := (0 : Int)) hj.2)
   exact ⟨⟨by dsimp only; decide, by dsimp only; decide⟩, this, ⟨by dsimp only [List.length_nil]; omega, fun y hy => by cases hy⟩, .inl rfl⟩
  ·exact ⟨⟨by dsimp only; decide, by dsimp only; decide⟩, ⟨by dsimp only; decide, by dsimp only; omega⟩, ⟨by dsimp only [List.length_nil]; decide, fun y hy => by cases hy⟩, .inr ⟨rfl, rfl⟩⟩
 ·rw [List.eq_of_mem_replicate hw]; decide
theorem mayH_fits {c : DConf} {l : List Int} (h : mayH c l = true) : fitsH c (readH c l) = true ∧ putH c (readH c l) = l := by
 have h0 := h
 unfold mayH at h
 simp only [Bool.and_eq_true, decide_eq_true_eq] at h
 obtain ⟨⟨⟨k, k3⟩, hl⟩, hp⟩ := h
 unfold readH
 rw [if_pos h0]
 refine ⟨?_, hp⟩
 cases hf : fitsH c (rawH c l)
 ·unfold putH at hp
  rw [hf, if_neg (by simp)] at hp
  subst hp
  have sh := chkC_shaped k
  obtain ⟨s1, s2, s3, s4⟩ := sh.h3 k3
  rw [sizeC_H k k3] at hl
  have h1 := sh.t0
  have h2 : 0 ≤ c.chans * (1 + c.cap) := Int.mul_nonneg (by omega) (by omega)
  simp only [List.length_nil] at hl
  omega
 ·rfl
theorem mayX_fits {c : DConf} {l : List Int} (h : mayX c l = true) : fitsX c (readX c l) = true ∧ putX c (readX c l) = l := by
 have h0 := h
 unfold mayX at h
 simp only [Bool.and_eq_true, decide_eq_true_eq] at h
 obtain ⟨⟨⟨k, k3⟩, hl⟩, hp⟩ := h
 unfold readX
 rw [if_pos h0]
 refine ⟨?_, hp⟩
 cases hf : fitsX c (rawX c l)
 ·unfold putX at hp
  rw [hf, if_neg (by simp)] at hp
  subst hp
  have sh := chkC_shaped k
  have := sh.h1 k3
  have h1 := sh.t0
  rw [sizeC_X k k3] at hl
  simp only [List.length_nil] at hl
  omega
 ·rfl
end
section
attribute [local irreducible] AL AW RG Fin C Cd Cio thenQ blockQ retQ
set_option maxRecDepth 100000
def doneL (c : DConf) (l : List Int) (t : Int) : Int := if chkC c = true ∧ (0 ≤ t ∧ t < c.threads) ∧ stateC c + t < l.length then l.getD (stateC c + t).toNat 0 else 0
theorem done1_o (c : DConf) (hs : c.start.length ≤ 1152921504606846976) (l : List Int) (t : Int) (hl : l.length ≤ 1152921504606846976) : Cd Try.prog 54 [aCf c, .ln (l.map tU), i64 t] (u64 (doneL c l t)) [] := by
 have c1 := check_c c hs
 have c2 := state_c c hs
 have h1 : (l.map tU).length = l.length := List.length_map _
 unfold doneL
 by_cases hA : chkC c = true ∧ (0 ≤ t ∧ t < c.threads) ∧ stateC c + t < l.length
 ·rw [if_pos hA]
  obtain ⟨h0, h2, h3⟩ := hA
  rw [h0] at c1
  have b := stateC_b h0
  have S := (chkC_shaped h0).t1
  generalize stateC c = z at *
  obtain ⟨a, ha⟩ : ∃ a, l[(z + t).toNat]? = some a := ⟨_, List.getElem?_eq_getElem (by omega)⟩
  rw [List.getD_eq_getElem?_getD, ha]
  refine Cd.enter' Try.func54 rfl Try.ntmps54 rfl ?_
  repeat' (first | ((with_reducible refine kAL ?_); (first | (refine kL 2826 rfl ?_; first | refine uK (c2) ?_) | (refine kL 2314 rfl ?_; first | refine uK (c1) ?_) | refine uA ?_)) | refine uC ?_ | fail)
  all_goals first | (exfalso; omega) | (exact Fin.q Try.results54 (.cons (.tmp rfl) .nil) [])
 ·rw [if_neg hA]
  have zb : 0 ≤ stateC c ∧ stateC c ≤ 329 := by
   cases hk : chkC c
   ·have e : stateC c = 0 := by unfold stateC; rw [hk]; rfl
    omega
   ·exact stateC_b hk
  cases h0 : chkC c
  ·rw [h0] at c1
   clear hA
   refine Cd.enter' Try.func54 rfl Try.ntmps54 rfl ?_
   repeat' (first | ((with_reducible refine kAL ?_); (first | (refine kL 2826 rfl ?_; first | refine uK (c2) ?_) | (refine kL 2314 rfl ?_; first | refine uK (c1) ?_) | refine uA ?_ | refine uS 14 (fun hb => ?_) (fun hb => ?_) | refine uS 20 (fun hb => ?_) (fun hb => ?_))) | refine uC ?_ | fail)
   all_goals first | (exfalso; omega) | (exact Fin.q Try.results54 (.cons (.tmp rfl) .nil) [])
  ·rw [h0] at c1
   have S := (chkC_shaped h0).t1
   have hB : ¬ ((0 ≤ t ∧ t < c.threads) ∧ stateC c + t < l.length) := fun h => hA ⟨h0, h⟩
   generalize stateC c = z at *
   by_cases ht : 0 ≤ t ∧ t < c.threads
   ·refine Cd.enter' Try.func54 rfl Try.ntmps54 rfl ?_
    repeat' (first | ((with_reducible refine kAL ?_); (first | (refine kL 2826 rfl ?_; first | refine uK (c2) ?_) | (refine kL 2314 rfl ?_; first | refine uK (c1) ?_) | refine uA ?_)) | refine uC ?_ | fail)
    all_goals first | (exfalso; omega) | (exact Fin.q Try.results54 (.cons (.tmp rfl) .nil) [])
   ·by_cases h0 : t < 0
    ·refine Cd.enter' Try.func54 rfl Try.ntmps54 rfl ?_
     repeat' (first | ((with_reducible refine kAL ?_); (first | (refine kL 2826 rfl ?_; first | refine uK (c2) ?_) | refine uA ?_)) | refine uC ?_ | fail)
     all_goals first | (exfalso; omega) | (exact Fin.q Try.results54 (.cons (.tmp rfl) .nil) [])
    ·refine Cd.enter' Try.func54 rfl Try.ntmps54 rfl ?_
     repeat' (first | ((with_reducible refine kAL ?_); (first | (refine kL 2826 rfl ?_; first | refine uK (c2) ?_) | refine uA ?_)) | refine uC ?_ | fail)
     all_goals first | (exfalso; omega) | (exact Fin.q Try.results54 (.cons (.tmp rfl) .nil) [])
theorem rdone_o (c : DConf) (hs : c.start.length ≤ 1152921504606846976) (l : List Int) (t : Int) (hl : l.length ≤ 1152921504606846976) : Cd Try.prog 59 [aCf c, .ln (l.map tU), i64 t] (u64 (doneL c l t)) [] := by
 have c1 := rchk_c c hs
 have c2 := rstate_c c hs
 have h1 : (l.map tU).length = l.length := List.length_map _
 unfold doneL
 by_cases hA : chkC c = true ∧ (0 ≤ t ∧ t < c.threads) ∧ stateC c + t < l.length
 ·rw [if_pos hA]
  obtain ⟨h0, h2, h3⟩ := hA
  rw [h0] at c1
  have b := stateC_b h0
  have S := (chkC_shaped h0).t1
  generalize stateC c = z at *
  obtain ⟨a, ha⟩ : ∃ a, l[(z + t).toNat]? = some a := ⟨_, List.getElem?_eq_getElem (by omega)⟩
  rw [List.getD_eq_getElem?_getD, ha]
  refine Cd.enter' Try.func59 rfl Try.ntmps59 rfl ?_
  repeat' (first | ((with_reducible refine kAL ?_); (first | (refine kL 1386 rfl ?_; first | refine uK (c1) ?_) | (refine kL 3018 rfl ?_; first | refine uK (c2) ?_) | refine uA ?_)) | refine uC ?_ | fail)
  all_goals first | (exfalso; omega) | (exact Fin.q Try.results59 (.cons (.tmp rfl) .nil) [])
 ·rw [if_neg hA]
  have zb : 0 ≤ stateC c ∧ stateC c ≤ 329 := by
   cases hk : chkC c
   ·have e : stateC c = 0 := by unfold stateC; rw [hk]; rfl
    omega
   ·exact stateC_b hk
  cases h0 : chkC c
  ·rw [h0] at c1
   clear hA
   refine Cd.enter' Try.func59 rfl Try.ntmps59 rfl ?_
   repeat' (first | ((with_reducible refine kAL ?_); (first | (refine kL 1386 rfl ?_; first | refine uK (c1) ?_) | refine uA ?_)) | refine uC ?_ | fail)
   all_goals first | (exfalso; omega) | (exact Fin.q Try.results59 (.cons (.tmp rfl) .nil) [])
  ·rw [h0] at c1
   have S := (chkC_shaped h0).t1
   have hB : ¬ ((0 ≤ t ∧ t < c.threads) ∧ stateC c + t < l.length) := fun h => hA ⟨h0, h⟩
   generalize stateC c = z at *
   by_cases ht : 0 ≤ t ∧ t < c.threads
   ·refine Cd.enter' Try.func59 rfl Try.ntmps59 rfl ?_
    repeat' (first | ((with_reducible refine kAL ?_); (first | (refine kL 1386 rfl ?_; first | refine uK (c1) ?_) | (refine kL 3018 rfl ?_; first | refine uK (c2) ?_) | refine uA ?_)) | refine uC ?_ | fail)
    all_goals first | (exfalso; omega) | (exact Fin.q Try.results59 (.cons (.tmp rfl) .nil) [])
   ·by_cases h0 : t < 0
    ·refine Cd.enter' Try.func59 rfl Try.ntmps59 rfl ?_
     repeat' (first | ((with_reducible refine kAL ?_); (first | (refine kL 1386 rfl ?_; first | refine uK (c1) ?_) | refine uA ?_)) | refine uC ?_ | fail)
     all_goals first | (exfalso; omega) | (exact Fin.q Try.results59 (.cons (.tmp rfl) .nil) [])
    ·refine Cd.enter' Try.func59 rfl Try.ntmps59 rfl ?_
     repeat' (first | ((with_reducible refine kAL ?_); (first | (refine kL 1386 rfl ?_; first | refine uK (c1) ?_) | refine uA ?_)) | refine uC ?_ | fail)
     all_goals first | (exfalso; omega) | (exact Fin.q Try.results59 (.cons (.tmp rfl) .nil) [])
end
section
attribute [local irreducible] AL AW RG Fin C Cd Cio thenQ blockQ retQ
set_option maxRecDepth 100000
end
section
attribute [local irreducible] AL AW RG Fin C Cd Cio thenQ blockQ retQ
set_option maxRecDepth 100000
theorem fifoNew_c (cap t : Int) : Cd Try.prog 103 [i64 cap, i64 t] (.agg [i64 cap, .nl, .sl 0 0 (max (min t 64) 0).toNat]) [.row 0 71 4 ((List.replicate (max (min t 64) 0).toNat (⟨0, 0, 0, 0⟩ : Rst)).map tR)] := by
 refine Cd.enter' Try.func103 rfl Try.ntmps103 rfl ?_
 repeat' (first | ((with_reducible refine kAL ?_); (first | (refine kL 1136 rfl ?_; first | refine A_make rfl rfl 35 _ _ rfl ud35 inf71 rfl (zs := [(.v (.int .i64 0)), (.v (.int .i64 0)), (.v (.int .i64 0)), (.v (.int .i64 0))]) rfl rfl rfl (max (min t 64) 0).toNat (by omega) (by omega) qB qB (by exact rep_map (f := tR) (x := ⟨_, _, _, _⟩)) (.push qL qN) ?_) | refine uA ?_)) | refine uC ?_ | fail)
 exact Fin.q Try.results103 (.cons (.agg rfl rfl ud117 rfl inf117 (us := [_, _, _]) rfl rfl) .nil) [1]
end
section
def newX (c : DConf) : DCells := ⟨c.cap, [], List.replicate (thN c) ⟨0, 0, 0, 0⟩⟩
theorem fitsX_start {c : DConf} (k : chkC c = true) (k3 : c.kind ≠ 3) : fitsX c (newX c) = true := by
 have hs := chkC_shaped k
 have hb := hs.h1 k3
 have ht : ((thN c : Nat) : Int) = c.threads := by have := hs.t0; have := hs.t1; unfold thN; omega
 refine fitsX_iff.2 ⟨k, k3, rfl, ⟨by dsimp only [newX, List.length_nil]; omega, fun y hy => by cases hy⟩, by dsimp only [newX]; rw [List.length_replicate]; exact ht, fun r hr => ?_⟩
 rw [List.eq_of_mem_replicate hr]; decide
theorem putX_new {c : DConf} (k : chkC c = true) (k3 : c.kind ≠ 3) : putX c (newX c) = List.replicate (sizeC c).toNat 0 := by
 have hs := chkC_shaped k
 have hb := hs.h1 k3
 have ht : ((thN c : Nat) : Int) = c.threads := by have := hs.t0; have := hs.t1; unfold thN; omega
 unfold putX
 rw [if_pos (fitsX_start k k3), sizeC_X k k3]
 have e : (1 + c.cap + c.threads).toNat = c.cap.toNat + thN c + 1 := by omega
 rw [e]
 have w : ∀ n, wpad [] n = List.replicate n 0 := fun n => by
  refine List.eq_replicate_iff.2 ⟨wpad_len _ _, fun y hy => ?_⟩
  obtain ⟨i, _, rfl⟩ := List.mem_map.1 hy
  rfl
 unfold newX
 dsimp only
 rw [w, List.map_replicate, show wordR ⟨0, 0, 0, 0⟩ = 0 by decide, List.replicate_append_replicate, List.replicate_succ]
 rfl
def startO (c : DConf) : List Int := if chkC c then (if c.kind = 3 then putH c (startH c) else putX c (newX c)) else []
structure Isw (c : DConf) (l : List Int) : Prop where
 no : chkC c = false → l = []
 h : chkC c = true → c.kind = 3 → mayH c l = true
 x : chkC c = true → c.kind ≠ 3 → mayX c l = true
theorem startO_is (c : DConf) : Isw c (startO c) := by
 unfold startO
 refine ⟨fun k => by rw [if_neg (by simp [k])], fun k k3 => ?_, fun k k3 => ?_⟩
 ·rw [if_pos k, if_pos k3, mayH_put, fitsH_start k k3]
 ·rw [if_pos k, if_neg k3, mayX_put, fitsX_start k k3]
theorem mayH_none {c : DConf} {l : List Int} (k : chkC c = false) : mayH c l = false := by unfold mayH; rw [k]; rfl
theorem mayX_none {c : DConf} {l : List Int} (k : chkC c = false) : mayX c l = false := by unfold mayX; rw [k]; rfl
theorem Isw.len {c : DConf} {l : List Int} (s : Isw c l) : (l.length : Int) = sizeC c := by
 cases k : chkC c
 ·rw [s.no k]; unfold sizeC; rw [if_neg (by simp [k])]; rfl
 ·by_cases k3 : c.kind = 3
  ·obtain ⟨f, e⟩ := mayH_fits (s.h k k3)
   have := putH_len f
   rwa [e] at this
  ·obtain ⟨f, e⟩ := mayX_fits (s.x k k3)
   have := putX_len f
   rwa [e] at this
theorem sizeC_pos {c : DConf} (k : chkC c = true) : 0 < sizeC c := by
 have hs := chkC_shaped k
 have h1 := hs.t0
 by_cases k3 : c.kind = 3
 ·have hb := hs.h3 k3
  rw [sizeC_H k k3]
  have h2 : 0 ≤ c.chans * (1 + c.cap) := Int.mul_nonneg (by omega) (by omega)
  omega
 ·have hb := hs.h1 k3
  rw [sizeC_X k k3]; omega
theorem Isw.may {c : DConf} {l : List Int} (s : Isw c l) : (mayH c l || mayX c l) = decide (0 < l.length) := by
 cases k : chkC c
 ·rw [s.no k, mayH_none k, mayX_none k]; rfl
 ·have h1 := s.len
  have h2 := sizeC_pos k
  rw [decide_eq_true (by omega)]
  by_cases k3 : c.kind = 3
  ·rw [s.h k k3]; rfl
  ·rw [s.x k k3, Bool.or_true]
end
end Go.Proofs.Ytnfbggpkiekpdaa
