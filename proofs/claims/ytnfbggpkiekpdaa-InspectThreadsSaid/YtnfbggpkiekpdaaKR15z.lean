/- Joined: XTReadC. -/
import Derived.Test.YtnfbggpkiekpdaaKR15h
import Derived.Test.YtnfbggpkiekpdaaKR15w
import Derived.Test.YtnfbggpkiekpdaaKR15k
import Derived.Test.YtnfbggpkiekpdaaKR15d
namespace Go.Proofs.Ytnfbggpkiekpdaa
open Go.RowKit
set_option linter.unusedVariables false
set_option linter.unusedSimpArgs false
set_option linter.unnecessarySimpa false
set_option maxRecDepth 100000
set_option maxHeartbeats 64000000
section
attribute [local irreducible] AL AW RG Fin C Cd Cio thenQ blockQ retQ
set_option maxRecDepth 100000
abbrev fRq (q : DReq) : AV := .agg [i64 q.kind, i64 q.arg, i64 q.value, bo q.dflt, .t (.lst (q.cases.map tCs))]
theorem psame_c (a b : List Int) (ha : a.length ≤ 1152921504606846976) : Cd Try.prog 89 [.ln (a.map tU), .ln (b.map tU)] (bo (decide (a = b))) [] := by
 have h1 : (a.map tU).length = a.length := List.length_map _
 have h2 : (b.map tU).length = b.length := List.length_map _
 refine Cd.enter' Try.func89 rfl Try.ntmps89 rfl ?_
 repeat' (first | refine uA ?_ | refine uC ?_ | refine kcp rfl (fun hc => ?_) (fun hc => ?_) | refine kcn rfl (fun hc => ?_) (fun hc => ?_) | refine kcb rfl (fun hc => ?_) (fun hc => ?_) | refine kcc rfl (fun hc => ?_) (fun hc => ?_) | fail)
 ·(first | exact Fin.q Try.results89 (.cons (.tmp rfl) .nil) [] | refine Fin.q Try.results89 (.cons (.tmp rfl) .nil) [] (hr := (.t ?_)) | refine Fin.mkv (rs := _) Try.results89 (.cons (.tmp rfl) .nil) [] (by decide) rfl ?_ ?_ ?_ <;> repeat' (skip; first | exact .nil | refine .cons rfl ?_ ?_ | refine .cons ?_ ?_ | refine .row ?_ | refine .rset ?_ | refine .box ?_ | exact .gone | refine .aggL ?_ | refine .tupL ?_ | refine .old rfl ?_ | refine .new rfl rfl rfl ?_ | exact .nl | exact .optr rfl | exact .nptr rfl rfl rfl | refine .t ?_ | exact .any _ | rfl))
  have : a ≠ b := by rintro rfl; exact hc rfl
  simp [this]
 ·refine AW.loopP (fun (i : Nat) => ∀ j, j < i → a.getD j 0 = b.getD j 0) (fun (i : Nat) => (pu (pu (pu (pu (pu (pu (fun _ => .any) 0 (.ln (a.map tU))) 1 (.ln (b.map tU))) 4 (.t (.v (.bool false)))) 12 (.ln (a.map tU))) 13 (i64 (a.map tU).length)) 14 (i64 i))) (fun (i : Nat) => []) (fun (i : Nat) => a.length + 1 - i) (0) ?_ ?_ ?_
  ·intro j hj; omega
  ·exact Wk.cq 0
  ·intro i hi
   repeat' (first | refine uA ?_ | refine uC ?_ | refine kcp rfl (fun hc => ?_) (fun hc => ?_) | refine kcn rfl (fun hc => ?_) (fun hc => ?_) | refine kcb rfl (fun hc => ?_) (fun hc => ?_) | refine kcc rfl (fun hc => ?_) (fun hc => ?_) | fail)
   ·(first | exact Fin.q Try.results89 (.cons (.tmp rfl) .nil) [] | refine Fin.q Try.results89 (.cons (.tmp rfl) .nil) [] (hr := (.t ?_)) | refine Fin.mkv (rs := _) Try.results89 (.cons (.tmp rfl) .nil) [] (by decide) rfl ?_ ?_ ?_ <;> repeat' (skip; first | exact .nil | refine .cons rfl ?_ ?_ | refine .cons ?_ ?_ | refine .row ?_ | refine .rset ?_ | refine .box ?_ | exact .gone | refine .aggL ?_ | refine .tupL ?_ | refine .old rfl ?_ | refine .new rfl rfl rfl ?_ | exact .nl | exact .optr rfl | exact .nptr rfl rfl rfl | refine .t ?_ | exact .any _ | rfl))
    have : a ≠ b := by rintro rfl; exact hc rfl
    simp [this]
   ·refine ⟨i + 1, fun j hj => ?_, by omega, ?_⟩
    ·by_cases e : j = i
     ·subst e; exact (Decidable.not_not.1 hc).symm
     ·exact hi j (by omega)
    ·exact Wk.cq 0
   ·(first | exact Fin.q Try.results89 (.cons (.tmp rfl) .nil) [] | refine Fin.q Try.results89 (.cons (.tmp rfl) .nil) [] (hr := (.t ?_)) | refine Fin.mkv (rs := _) Try.results89 (.cons (.tmp rfl) .nil) [] (by decide) rfl ?_ ?_ ?_ <;> repeat' (skip; first | exact .nil | refine .cons rfl ?_ ?_ | refine .cons ?_ ?_ | refine .row ?_ | refine .rset ?_ | refine .box ?_ | exact .gone | refine .aggL ?_ | refine .tupL ?_ | refine .old rfl ?_ | refine .new rfl rfl rfl ?_ | exact .nl | exact .optr rfl | exact .nptr rfl rfl rfl | refine .t ?_ | exact .any _ | rfl))
    have : a = b := all_eq (z := 0) (by omega) fun j hj => hi j (by omega)
    simp [this]
def callC (q : DReq) (ph : Int) : List Int := if fitQ q then callD q ph else []
theorem pcallC_c (q : DReq) (ph : Int) (hl : q.cases.length ≤ 1152921504606846976) (hp : 0 ≤ ph ∧ ph ≤ 4294967295) : Cd Try.prog 90 [aRq q, i64 ph] (fU (callC q ph)) [] := by
 unfold callC
 cases hq : fitQ q
 ·exact pCallN_c q ph hl hq
 ·rw [if_pos rfl]
  cases hd : q.dflt
  ·rw [callD_W hd]; exact pCall_c q ph hq hd hp
  ·exact pCallT_c q ph hq hd hp
theorem reqR_len (h a b c : Int) : (reqR h a b c).cases.length ≤ 3 := by unfold reqR; simp; omega
theorem callC_back {h a b c p : Int} (hh : 0 ≤ h ∧ h ≤ 18446744073709551615) (ha : 0 ≤ a ∧ a ≤ 18446744073709551615) (hb : 0 ≤ b ∧ b ≤ 18446744073709551615) (hc : 0 ≤ c ∧ c ≤ 18446744073709551615) (hp : p ≤ 4294967295) (h3 : h / 256 % 16 ≤ 3) : decide (callC (reqR h a b c) p = [h, a, b, c, p]) = mayC h a b c p := by
 have k := call_back hh ha hb hc hp h3
 unfold callC
 cases hf : fitQ (reqR h a b c)
 ·rw [hf] at k
  simp only [Bool.false_eq_true, false_and, false_iff] at k
  rw [if_neg (by simp)]
  simp [k]
 ·rw [hf] at k
  rw [if_pos rfl]
  simp only [true_and] at k
  cases hm : mayC h a b c p
  ·exact decide_eq_false fun e => by have := k.1 e; rw [hm] at this; cases this
  ·exact decide_eq_true (k.2 hm)
def reqC (h a b c p : Int) : DReq := if mayC h a b c p then reqR h a b c else ⟨0, 0, 0, false, []⟩
def phC (h a b c p : Int) : Int := if mayC h a b c p then p else 0
theorem mayC_n {h a b c p : Int} (hn : ¬ (p ≤ 4294967295 ∧ h / 256 % 16 ≤ 3)) : mayC h a b c p = false := by
 unfold mayC
 by_cases h1 : p ≤ 4294967295
 ·rw [decide_eq_false (p := 1 ≤ h % 256 ∧ h % 256 ≤ 9 ∧ h / 256 % 16 ≤ 3 ∧ h / 4096 % 16 ≤ 1) (by omega)]; simp
 ·rw [decide_eq_false h1]; simp
theorem nR_e {h : Int} (h0 : 0 ≤ h) : h / 256 % 16 = ((nR h : Nat) : Int) ∧ nR h ≤ 15 := by unfold nR; omega
theorem preadcall_c (h a b c p : Int) (hh : 0 ≤ h ∧ h ≤ 18446744073709551615) (ha : 0 ≤ a ∧ a ≤ 18446744073709551615) (hb : 0 ≤ b ∧ b ≤ 18446744073709551615) (hc : 0 ≤ c ∧ c ≤ 18446744073709551615) (hp : 0 ≤ p ∧ p ≤ 18446744073709551615) :
  Cd Try.prog 55 [.ln ([h, a, b, c, p].map tU)] (.tup [fRq (reqC h a b c p), i64 (phC h a b c p), bo (mayC h a b c p)]) [] := by
 obtain ⟨hn, hn15⟩ := nR_e hh.1
 have x0 : ([h, a, b, c, p] : List Int)[0]? = some h := rfl
 have x4 : ([h, a, b, c, p] : List Int)[4]? = some p := rfl
 have hl : (([h, a, b, c, p] : List Int).map tU).length = 5 := rfl
 have hl2 : ([h, a, b, c, p] : List Int).length = 5 := rfl
 by_cases hk : p ≤ 4294967295 ∧ h / 256 % 16 ≤ 3
 ·have cB := callC_back hh ha hb hc hk.1 hk.2
  have cC := pcallC_c (reqR h a b c) p (by have := reqR_len h a b c; omega) ⟨hp.1, hk.1⟩
  have cS := psame_c (callC (reqR h a b c) p) [h, a, b, c, p] (by unfold callC callD; split; simp [wpad]; exact Nat.zero_le _)
  rw [cB] at cS
  have h0 : ∀ m, mayC h a b c p = m → Cd Try.prog 55 [.ln ([h, a, b, c, p].map tU)] (if m then .tup [.agg [i64 (h % 256), i64 (h / 65536 % 65536), i64 (h / 4294967296), bo (decide (h / 4096 % 2 = 1)), .sl 0 0 (nR h)], i64 p, bo true] else .tup [fRq ⟨0, 0, 0, false, []⟩, i64 0, bo false]) (if m then [.row 0 101 3 ((([a, b, c].take (nR h)).map caseR).map tCs)] else []) := by
   intro m hm
   rw [hm] at cS
   have eL : List.take (Int.toNat (1 + h / 256 % 16) - 1) (List.drop 1 ([h, a, b, c, p] : List Int)) = [a, b, c].take (nR h) := by
    rw [show Int.toNat (1 + h / 256 % 16) - 1 = nR h by omega]
    have : nR h = 0 ∨ nR h = 1 ∨ nR h = 2 ∨ nR h = 3 := by omega
    rcases this with e | e | e | e <;> rw [e] <;> rfl
   have lL : ([a, b, c].take (nR h)).length = nR h := by rw [List.length_take]; simp only [List.length_cons, List.length_nil]; omega
   have lM : (([a, b, c].take (nR h)).map tU).length = nR h := by rw [List.length_map, lL]
   have lw : ∀ w ∈ [a, b, c].take (nR h), 0 ≤ w ∧ w ≤ 18446744073709551615 := fun w hw => by
    have := List.mem_of_mem_take hw
    simp only [List.mem_cons, List.not_mem_nil, or_false] at this
    rcases this with rfl | rfl | rfl <;> assumption
   have eR : reqR h a b c = ⟨h % 256, h / 65536 % 65536, h / 4294967296, decide (h / 4096 % 2 = 1), ([a, b, c].take (nR h)).map caseR⟩ := rfl
   generalize hcl : callC (reqR h a b c) p = cl at *
   rw [eR] at cC
   dsimp only [aRq] at cC
   generalize [a, b, c].take (nR h) = L at *
   generalize hD : ([h, a, b, c, p] : List Int) = D at *
   clear hm cB hcl hD ha hb hc
   refine Cd.enter' Try.func55 rfl Try.ntmps55 rfl ?_
   repeat' (first | ((with_reducible refine kAL ?_); (first | (refine kL 12 rfl ?_; first | refine A_append_nlsub rfl rfl _ _ 61 rfl ud61 inf101 rfl rfl rfl rfl (by (try simp only [List.length_map, List.length_append, List.length_cons, List.length_nil]); omega) qB qB List.map_drop.symm (.push qL qN) ?_) | (refine kL 2217 rfl ?_; first | refine A_bits rfl rfl .and 69 69 _ _ rfl rfl rfl rfl (and_lit 8 (M := 256) rfl rfl (by omega) (by omega) (by omega)) ?_ | refine A_shr rfl rfl 69 78 _ _ rfl rfl rfl (by decide) (fdiv_lit (m := 65536) rfl (by decide)) ?_ | refine A_bits rfl rfl .and 69 69 _ _ rfl rfl rfl rfl (and_lit 16 (M := 65536) rfl rfl (by omega) (by omega) (by omega)) ?_ | refine A_shr rfl rfl 69 78 _ _ rfl rfl rfl (by decide) (fdiv_lit (m := 4294967296) rfl (by decide)) ?_ | refine A_shr rfl rfl 69 78 _ _ rfl rfl rfl (by decide) (fdiv_lit (m := 4096) rfl (by decide)) ?_ | refine A_bits rfl rfl .and 69 69 _ _ rfl rfl rfl rfl (and_lit 1 (M := 2) rfl rfl (by omega) (by omega) (by omega)) ?_ | refine A_shr rfl rfl 69 78 _ _ rfl rfl rfl (by decide) (fdiv_lit (m := 256) rfl (by decide)) ?_ | refine A_bits rfl rfl .and 69 69 _ _ rfl rfl rfl rfl rfl ?_ | refine A_shr rfl rfl 69 78 _ _ rfl rfl rfl (by first | decide | omega) rfl ?_) | (refine kL 1967 rfl ?_; first | refine A_lit rfl rfl 61 1 _ rfl ud61 inf101 (.cons rfl .nil) (els := [[_, _, _]]) rfl (by first | exact qN) rfl (Nat.ne_of_beq_eq_false rfl) (Nat.le_of_ble_eq_true rfl) (Nat.le_of_ble_eq_true rfl) (.push qL qN) ?_) | refine uA ?_ | refine uS 42 (fun hb => ?_) (fun hb => ?_))) | ((with_reducible refine kRG ?_); (first | (refine kR 2217 rfl ?_; first | refine R_shr rfl rfl 69 78 _ _ rfl rfl rfl (by decide) (fdiv_lit (m := 256) rfl (by decide)) ?_ | refine R_bits rfl rfl .and 69 69 _ _ rfl rfl rfl rfl (and_lit 4 (M := 16) rfl rfl (by omega) (by omega) (by omega)) ?_ | refine R_shr rfl rfl 69 78 _ _ rfl rfl rfl (by first | decide | omega) rfl ?_ | refine R_bits rfl rfl .and 69 69 _ _ rfl rfl rfl rfl rfl ?_) | refine uR ?_)) | refine uC ?_ | refine kcp rfl (fun hc => ?_) (fun hc => ?_) | refine kcn rfl (fun hc => ?_) (fun hc => ?_) | refine kcb rfl (fun hc => ?_) (fun hc => ?_) | refine kcc rfl (fun hc => ?_) (fun hc => ?_) | refine AW.drawU (id := 5) mixed 0 qR ?_ | fail)
   all_goals first | (exfalso; omega) | skip
   rw [eL]
   refine AW.wk (Wk.ownB 1 4 rfl rfl 101 3 (.push rfl rfl) rfl) ?_
   refine AW.loopP (fun (i : Nat) => i ≤ nR h) (fun (i : Nat) => (pu (pu (pu (pu (pu (pu (pu (fun _ => .any) 0 (.ln (D.map tU))) 2 (.ptr 0 0)) 6 (.ptr 1 0)) 8 (u64 p)) 50 (.ln (L.map tU))) 51 (i64 (L.map tU).length)) 52 (i64 i))) (fun (i : Nat) => [.box 63 [i64 0, i64 0, i64 0, bo false, .nl], .box 63 [i64 (h % 256), i64 (h / 65536 % 65536), i64 (h / 4294967296), bo (decide (h / 4096 % 2 = 1)), .sl 2 i i], .row i 101 3 (((L.take i).map caseR).map tCs)]) (fun (i : Nat) => nR h - i) (0) ?_ ?_ ?_
   ·exact Nat.zero_le _
   ·exact Wk.cq 3
   ·intro i hi
    by_cases hi2 : i < nR h
    ·obtain ⟨w, hw⟩ : ∃ w, L[i]? = some w := ⟨_, List.getElem?_eq_getElem (by omega)⟩
     have hwb := lw w (List.mem_of_getElem? hw)
     have hs : (L.take (i + 1)).map caseR = (L.take i).map caseR ++ [caseR w] := by rw [List.take_add_one, hw]; simp
     have hM : ((L.take i).map caseR).length = i := by rw [List.length_map, List.length_take]; omega
     rw [show caseR w = ⟨w % 256, w / 256 % 65536, w / 4294967296⟩ from rfl] at hs
     generalize (L.take i).map caseR = M at *
     have hM2 : (M.map tCs).length = i := by rw [List.length_map, hM]
     clear eL x0 x4 hk hh hn
     repeat' (first | ((with_reducible refine kAL ?_); (first | (refine kL 12 rfl ?_; first | refine A_append_nlsub rfl rfl _ _ 61 rfl ud61 inf101 rfl rfl rfl rfl (by (try simp only [List.length_map, List.length_append, List.length_cons, List.length_nil]); omega) qB qB List.map_drop.symm (.push qL qN) ?_) | (refine kL 2217 rfl ?_; first | refine A_bits rfl rfl .and 69 69 _ _ rfl rfl rfl rfl (and_lit 8 (M := 256) rfl rfl (by omega) (by omega) (by omega)) ?_ | refine A_shr rfl rfl 69 78 _ _ rfl rfl rfl (by decide) (fdiv_lit (m := 65536) rfl (by decide)) ?_ | refine A_bits rfl rfl .and 69 69 _ _ rfl rfl rfl rfl (and_lit 16 (M := 65536) rfl rfl (by omega) (by omega) (by omega)) ?_ | refine A_shr rfl rfl 69 78 _ _ rfl rfl rfl (by decide) (fdiv_lit (m := 4294967296) rfl (by decide)) ?_ | refine A_shr rfl rfl 69 78 _ _ rfl rfl rfl (by decide) (fdiv_lit (m := 4096) rfl (by decide)) ?_ | refine A_bits rfl rfl .and 69 69 _ _ rfl rfl rfl rfl (and_lit 1 (M := 2) rfl rfl (by omega) (by omega) (by omega)) ?_ | refine A_shr rfl rfl 69 78 _ _ rfl rfl rfl (by decide) (fdiv_lit (m := 256) rfl (by decide)) ?_ | refine A_bits rfl rfl .and 69 69 _ _ rfl rfl rfl rfl rfl ?_ | refine A_shr rfl rfl 69 78 _ _ rfl rfl rfl (by first | decide | omega) rfl ?_) | (refine kL 1967 rfl ?_; first | refine A_lit rfl rfl 61 1 _ rfl ud61 inf101 (.cons rfl .nil) (els := [[_, _, _]]) rfl (by first | exact qN) rfl (Nat.ne_of_beq_eq_false rfl) (Nat.le_of_ble_eq_true rfl) (Nat.le_of_ble_eq_true rfl) (.push qL qN) ?_) | refine uA ?_ | refine uS 42 (fun hb => ?_) (fun hb => ?_))) | ((with_reducible refine kRG ?_); (first | (refine kR 2217 rfl ?_; first | refine R_shr rfl rfl 69 78 _ _ rfl rfl rfl (by decide) (fdiv_lit (m := 256) rfl (by decide)) ?_ | refine R_bits rfl rfl .and 69 69 _ _ rfl rfl rfl rfl (and_lit 4 (M := 16) rfl rfl (by omega) (by omega) (by omega)) ?_ | refine R_shr rfl rfl 69 78 _ _ rfl rfl rfl (by first | decide | omega) rfl ?_ | refine R_bits rfl rfl .and 69 69 _ _ rfl rfl rfl rfl rfl ?_) | refine uR ?_)) | refine uC ?_ | refine kcp rfl (fun hc => ?_) (fun hc => ?_) | refine kcn rfl (fun hc => ?_) (fun hc => ?_) | refine kcb rfl (fun hc => ?_) (fun hc => ?_) | refine kcc rfl (fun hc => ?_) (fun hc => ?_) | refine AW.drawU (id := 5) mixed 0 qR ?_ | fail)
     all_goals first | (exfalso; omega) | skip
     refine ⟨i + 1, by omega, by omega, ?_⟩
     rw [hs]
     exact Wk.cq 3
    ·have e : L.take i = L := List.take_of_length_le (by omega)
     have e2 : i = nR h := by omega
     have hM2 : ((L.map caseR).map tCs).length = nR h := by rw [List.length_map, List.length_map, lL]
     have hM : (L.map caseR).length = nR h := by rw [List.length_map, lL]
     rw [e, e2]
     generalize L.map caseR = M at *
     clear eL x0 x4 e e2 hi hi2 lw
     cases m
     ·repeat' (first | ((with_reducible refine kAL ?_); (first | (refine kL 2030 rfl ?_; first | (refine zkD 80 rfl ?_; refine uA ?_; (try refine uz 80 ?_))) | (refine kL 12 rfl ?_; first | refine A_append_nlsub rfl rfl _ _ 61 rfl ud61 inf101 rfl rfl rfl rfl (by (try simp only [List.length_map, List.length_append, List.length_cons, List.length_nil]); omega) qB qB List.map_drop.symm (.push qL qN) ?_) | (refine kL 2217 rfl ?_; first | refine A_bits rfl rfl .and 69 69 _ _ rfl rfl rfl rfl (and_lit 8 (M := 256) rfl rfl (by omega) (by omega) (by omega)) ?_ | refine A_shr rfl rfl 69 78 _ _ rfl rfl rfl (by decide) (fdiv_lit (m := 65536) rfl (by decide)) ?_ | refine A_bits rfl rfl .and 69 69 _ _ rfl rfl rfl rfl (and_lit 16 (M := 65536) rfl rfl (by omega) (by omega) (by omega)) ?_ | refine A_shr rfl rfl 69 78 _ _ rfl rfl rfl (by decide) (fdiv_lit (m := 4294967296) rfl (by decide)) ?_ | refine A_shr rfl rfl 69 78 _ _ rfl rfl rfl (by decide) (fdiv_lit (m := 4096) rfl (by decide)) ?_ | refine A_bits rfl rfl .and 69 69 _ _ rfl rfl rfl rfl (and_lit 1 (M := 2) rfl rfl (by omega) (by omega) (by omega)) ?_ | refine A_shr rfl rfl 69 78 _ _ rfl rfl rfl (by decide) (fdiv_lit (m := 256) rfl (by decide)) ?_ | refine A_bits rfl rfl .and 69 69 _ _ rfl rfl rfl rfl rfl ?_ | refine A_shr rfl rfl 69 78 _ _ rfl rfl rfl (by first | decide | omega) rfl ?_) | (refine kL 1967 rfl ?_; first | refine A_lit rfl rfl 61 1 _ rfl ud61 inf101 (.cons rfl .nil) (els := [[_, _, _]]) rfl (by first | exact qN) rfl (Nat.ne_of_beq_eq_false rfl) (Nat.le_of_ble_eq_true rfl) (Nat.le_of_ble_eq_true rfl) (.push qL qN) ?_) | (refine kL 2890 rfl ?_; first | refine uK (cC) ?_) | (refine kL 2858 rfl ?_; first | refine uK (cS) ?_) | refine uA ?_ | refine uS 42 (fun hb => ?_) (fun hb => ?_))) | ((with_reducible refine kRG ?_); (first | (refine kR 2217 rfl ?_; first | refine R_shr rfl rfl 69 78 _ _ rfl rfl rfl (by decide) (fdiv_lit (m := 256) rfl (by decide)) ?_ | refine R_bits rfl rfl .and 69 69 _ _ rfl rfl rfl rfl (and_lit 4 (M := 16) rfl rfl (by omega) (by omega) (by omega)) ?_ | refine R_shr rfl rfl 69 78 _ _ rfl rfl rfl (by first | decide | omega) rfl ?_ | refine R_bits rfl rfl .and 69 69 _ _ rfl rfl rfl rfl rfl ?_) | refine uR ?_)) | refine uC ?_ | refine kcp rfl (fun hc => ?_) (fun hc => ?_) | refine kcn rfl (fun hc => ?_) (fun hc => ?_) | refine kcb rfl (fun hc => ?_) (fun hc => ?_) | refine kcc rfl (fun hc => ?_) (fun hc => ?_) | refine AW.drawU (id := 5) mixed 0 qR ?_ | fail)
      all_goals first | (exfalso; omega) | ((first | exact Fin.q Try.results55 (.cons (.agg rfl rfl ud63 rfl inf63 (us := [_, _, _, _, _]) rfl rfl) (.cons (.tmp rfl) (.cons (.tmp rfl) .nil))) [] | refine Fin.q Try.results55 (.cons (.agg rfl rfl ud63 rfl inf63 (us := [_, _, _, _, _]) rfl rfl) (.cons (.tmp rfl) (.cons (.tmp rfl) .nil))) [] (hr := (.tupL (.cons (.t ?_) (.cons (.t ?_) (.cons (.t ?_) .nil))))) | refine Fin.mkv (rs := _) Try.results55 (.cons (.agg rfl rfl ud63 rfl inf63 (us := [_, _, _, _, _]) rfl rfl) (.cons (.tmp rfl) (.cons (.tmp rfl) .nil))) [] (by decide) rfl ?_ ?_ ?_ <;> repeat' (skip; first | exact .nil | refine .cons rfl ?_ ?_ | refine .cons ?_ ?_ | refine .row ?_ | refine .rset ?_ | refine .box ?_ | exact .gone | refine .aggL ?_ | refine .tupL ?_ | refine .old rfl ?_ | refine .new rfl rfl rfl ?_ | exact .nl | exact .optr rfl | exact .nptr rfl rfl rfl | refine .t ?_ | exact .any _ | rfl)))
     ·repeat' (first | ((with_reducible refine kAL ?_); (first | (refine kL 12 rfl ?_; first | refine A_append_nlsub rfl rfl _ _ 61 rfl ud61 inf101 rfl rfl rfl rfl (by (try simp only [List.length_map, List.length_append, List.length_cons, List.length_nil]); omega) qB qB List.map_drop.symm (.push qL qN) ?_) | (refine kL 2217 rfl ?_; first | refine A_bits rfl rfl .and 69 69 _ _ rfl rfl rfl rfl (and_lit 8 (M := 256) rfl rfl (by omega) (by omega) (by omega)) ?_ | refine A_shr rfl rfl 69 78 _ _ rfl rfl rfl (by decide) (fdiv_lit (m := 65536) rfl (by decide)) ?_ | refine A_bits rfl rfl .and 69 69 _ _ rfl rfl rfl rfl (and_lit 16 (M := 65536) rfl rfl (by omega) (by omega) (by omega)) ?_ | refine A_shr rfl rfl 69 78 _ _ rfl rfl rfl (by decide) (fdiv_lit (m := 4294967296) rfl (by decide)) ?_ | refine A_shr rfl rfl 69 78 _ _ rfl rfl rfl (by decide) (fdiv_lit (m := 4096) rfl (by decide)) ?_ | refine A_bits rfl rfl .and 69 69 _ _ rfl rfl rfl rfl (and_lit 1 (M := 2) rfl rfl (by omega) (by omega) (by omega)) ?_ | refine A_shr rfl rfl 69 78 _ _ rfl rfl rfl (by decide) (fdiv_lit (m := 256) rfl (by decide)) ?_ | refine A_bits rfl rfl .and 69 69 _ _ rfl rfl rfl rfl rfl ?_ | refine A_shr rfl rfl 69 78 _ _ rfl rfl rfl (by first | decide | omega) rfl ?_) | (refine kL 1967 rfl ?_; first | refine A_lit rfl rfl 61 1 _ rfl ud61 inf101 (.cons rfl .nil) (els := [[_, _, _]]) rfl (by first | exact qN) rfl (Nat.ne_of_beq_eq_false rfl) (Nat.le_of_ble_eq_true rfl) (Nat.le_of_ble_eq_true rfl) (.push qL qN) ?_) | (refine kL 2890 rfl ?_; first | refine uK (cC) ?_) | (refine kL 2858 rfl ?_; first | refine uK (cS) ?_) | refine uA ?_ | refine uS 42 (fun hb => ?_) (fun hb => ?_))) | ((with_reducible refine kRG ?_); (first | (refine kR 2217 rfl ?_; first | refine R_shr rfl rfl 69 78 _ _ rfl rfl rfl (by decide) (fdiv_lit (m := 256) rfl (by decide)) ?_ | refine R_bits rfl rfl .and 69 69 _ _ rfl rfl rfl rfl (and_lit 4 (M := 16) rfl rfl (by omega) (by omega) (by omega)) ?_ | refine R_shr rfl rfl 69 78 _ _ rfl rfl rfl (by first | decide | omega) rfl ?_ | refine R_bits rfl rfl .and 69 69 _ _ rfl rfl rfl rfl rfl ?_) | refine uR ?_)) | refine uC ?_ | refine kcp rfl (fun hc => ?_) (fun hc => ?_) | refine kcn rfl (fun hc => ?_) (fun hc => ?_) | refine kcb rfl (fun hc => ?_) (fun hc => ?_) | refine kcc rfl (fun hc => ?_) (fun hc => ?_) | refine AW.drawU (id := 5) mixed 0 qR ?_ | fail)
      all_goals first | (exfalso; omega) | ((first | exact Fin.q Try.results55 (.cons (.agg rfl rfl ud63 rfl inf63 (us := [_, _, _, _, _]) rfl rfl) (.cons (.tmp rfl) (.cons (.tmp rfl) .nil))) [2] | refine Fin.q Try.results55 (.cons (.agg rfl rfl ud63 rfl inf63 (us := [_, _, _, _, _]) rfl rfl) (.cons (.tmp rfl) (.cons (.tmp rfl) .nil))) [2] (hr := (.tupL (.cons (.t ?_) (.cons (.t ?_) (.cons (.t ?_) .nil))))) | refine Fin.mkv (rs := _) Try.results55 (.cons (.agg rfl rfl ud63 rfl inf63 (us := [_, _, _, _, _]) rfl rfl) (.cons (.tmp rfl) (.cons (.tmp rfl) .nil))) [2] (by decide) rfl ?_ ?_ ?_ <;> repeat' (skip; first | exact .nil | refine .cons rfl ?_ ?_ | refine .cons ?_ ?_ | refine .row ?_ | refine .rset ?_ | refine .box ?_ | exact .gone | refine .aggL ?_ | refine .tupL ?_ | refine .old rfl ?_ | refine .new rfl rfl rfl ?_ | exact .nl | exact .optr rfl | exact .nptr rfl rfl rfl | refine .t ?_ | exact .any _ | rfl)))
  unfold reqC phC
  cases hm : mayC h a b c p
  ·have h1 := h0 false hm
   simp only [Bool.false_eq_true, if_false] at h1 ⊢
   exact h1
  ·have h1 := h0 true hm
   simp only [if_true] at h1 ⊢
   have e : (([a, b, c].take (nR h)).map caseR).length = nR h := by rw [List.length_map, List.length_take]; simp only [List.length_cons, List.length_nil]; omega
   rw [show reqR h a b c = ⟨h % 256, h / 65536 % 65536, h / 4294967296, decide (h / 4096 % 2 = 1), ([a, b, c].take (nR h)).map caseR⟩ from rfl]
   generalize ([a, b, c].take (nR h)).map caseR = M at *
   rw [← e] at h1
   have h1' := Cd.frz h1 0 rfl (by repeat' (first | exact FzL.nil | apply FzL.cons | exact FzR.nlt | exact FzR.all (by first | rfl | (simp <;> fail) | (simp; omega)) | exact FzR.sl (by first | exact Nat.le_refl _ | (simp <;> fail) | (simp; omega)) | apply FzR.aggL | exact FzR.same _)) rfl; exact Cd.drop h1' rfl
 ·have hm := mayC_n (a := a) (b := b) (c := c) hk
  unfold reqC phC
  rw [hm, if_neg (by simp), if_neg (by simp)]
  generalize hD : ([h, a, b, c, p] : List Int) = D at *
  clear hD hm
  by_cases h1 : h / 256 % 16 ≤ 3
  all_goals
   refine Cd.enter' Try.func55 rfl Try.ntmps55 rfl ?_
   repeat' (first | ((with_reducible refine kAL ?_); (first | (refine kL 2030 rfl ?_; first | (refine zkD 14 rfl ?_; refine uA ?_; (try refine uz 14 ?_)) | (refine zkD 46 rfl ?_; refine uA ?_; (try refine uz 46 ?_)) | (refine zkD 80 rfl ?_; refine uA ?_; (try refine uz 80 ?_))) | (refine kL 12 rfl ?_; first | refine A_append_nlsub rfl rfl _ _ 61 rfl ud61 inf101 rfl rfl rfl rfl (by (try simp only [List.length_map, List.length_append, List.length_cons, List.length_nil]); omega) qB qB List.map_drop.symm (.push qL qN) ?_) | (refine kL 2217 rfl ?_; first | refine A_bits rfl rfl .and 69 69 _ _ rfl rfl rfl rfl (and_lit 8 (M := 256) rfl rfl (by omega) (by omega) (by omega)) ?_ | refine A_shr rfl rfl 69 78 _ _ rfl rfl rfl (by decide) (fdiv_lit (m := 65536) rfl (by decide)) ?_ | refine A_bits rfl rfl .and 69 69 _ _ rfl rfl rfl rfl (and_lit 16 (M := 65536) rfl rfl (by omega) (by omega) (by omega)) ?_ | refine A_shr rfl rfl 69 78 _ _ rfl rfl rfl (by decide) (fdiv_lit (m := 4294967296) rfl (by decide)) ?_ | refine A_shr rfl rfl 69 78 _ _ rfl rfl rfl (by decide) (fdiv_lit (m := 4096) rfl (by decide)) ?_ | refine A_bits rfl rfl .and 69 69 _ _ rfl rfl rfl rfl (and_lit 1 (M := 2) rfl rfl (by omega) (by omega) (by omega)) ?_ | refine A_shr rfl rfl 69 78 _ _ rfl rfl rfl (by decide) (fdiv_lit (m := 256) rfl (by decide)) ?_ | refine A_bits rfl rfl .and 69 69 _ _ rfl rfl rfl rfl rfl ?_ | refine A_shr rfl rfl 69 78 _ _ rfl rfl rfl (by first | decide | omega) rfl ?_) | (refine kL 1967 rfl ?_; first | refine A_lit rfl rfl 61 1 _ rfl ud61 inf101 (.cons rfl .nil) (els := [[_, _, _]]) rfl (by first | exact qN) rfl (Nat.ne_of_beq_eq_false rfl) (Nat.le_of_ble_eq_true rfl) (Nat.le_of_ble_eq_true rfl) (.push qL qN) ?_) | refine uA ?_ | refine uS 42 (fun hb => ?_) (fun hb => ?_))) | ((with_reducible refine kRG ?_); (first | (refine kR 2217 rfl ?_; first | refine R_shr rfl rfl 69 78 _ _ rfl rfl rfl (by decide) (fdiv_lit (m := 256) rfl (by decide)) ?_ | refine R_bits rfl rfl .and 69 69 _ _ rfl rfl rfl rfl (and_lit 4 (M := 16) rfl rfl (by omega) (by omega) (by omega)) ?_ | refine R_shr rfl rfl 69 78 _ _ rfl rfl rfl (by first | decide | omega) rfl ?_ | refine R_bits rfl rfl .and 69 69 _ _ rfl rfl rfl rfl rfl ?_) | refine uR ?_)) | refine uC ?_ | refine kcp rfl (fun hc => ?_) (fun hc => ?_) | refine kcn rfl (fun hc => ?_) (fun hc => ?_) | refine kcb rfl (fun hc => ?_) (fun hc => ?_) | refine kcc rfl (fun hc => ?_) (fun hc => ?_) | refine AW.drawU (id := 5) mixed 0 qR ?_ | fail)
   all_goals first | (exfalso; omega) | ((first | exact Fin.q Try.results55 (.cons (.agg rfl rfl ud63 rfl inf63 (us := [_, _, _, _, _]) rfl rfl) (.cons (.tmp rfl) (.cons (.tmp rfl) .nil))) [] | refine Fin.q Try.results55 (.cons (.agg rfl rfl ud63 rfl inf63 (us := [_, _, _, _, _]) rfl rfl) (.cons (.tmp rfl) (.cons (.tmp rfl) .nil))) [] (hr := (.tupL (.cons (.t ?_) (.cons (.t ?_) (.cons (.t ?_) .nil))))) | refine Fin.mkv (rs := _) Try.results55 (.cons (.agg rfl rfl ud63 rfl inf63 (us := [_, _, _, _, _]) rfl rfl) (.cons (.tmp rfl) (.cons (.tmp rfl) .nil))) [] (by decide) rfl ?_ ?_ ?_ <;> repeat' (skip; first | exact .nil | refine .cons rfl ?_ ?_ | refine .cons ?_ ?_ | refine .row ?_ | refine .rset ?_ | refine .box ?_ | exact .gone | refine .aggL ?_ | refine .tupL ?_ | refine .old rfl ?_ | refine .new rfl rfl rfl ?_ | exact .nl | exact .optr rfl | exact .nptr rfl rfl rfl | refine .t ?_ | exact .any _ | rfl)))
theorem rone_c (w : Int) (hw : 0 ≤ w ∧ w ≤ 18446744073709551615) : Cd Try.prog 93 [u64 w] (.tup [.agg [i64 (caseR w).dir, i64 (caseR w).handle, i64 (caseR w).value], bo (okW1 w)]) [] := by
 unfold okW1 caseR
 dsimp only
 by_cases h1 : w % 256 = 1
 ·by_cases h3 : w / 16777216 % 256 = 0
  all_goals
   rw [show decide ((w % 256 = 1 ∨ w % 256 = 2) ∧ w / 16777216 % 256 = 0) = decide (w / 16777216 % 256 = 0) from decide_eq_decide.2 (by omega)]
   refine Cd.enter' Try.func93 rfl Try.ntmps93 rfl ?_
   repeat' (first | ((with_reducible refine kAL ?_); (first | refine uA ?_ | refine uS 20 (fun hb => ?_) (fun hb => ?_) | refine uS 25 (fun hb => ?_) (fun hb => ?_))) | refine uC ?_ | refine kcp rfl (fun hc => ?_) (fun hc => ?_) | refine kcn rfl (fun hc => ?_) (fun hc => ?_) | refine kcb rfl (fun hc => ?_) (fun hc => ?_) | refine kcc rfl (fun hc => ?_) (fun hc => ?_) | fail)
   all_goals first | (exfalso; omega) | ((first | exact Fin.q Try.results93 (.cons (.agg rfl rfl ud101 rfl inf101 (us := [_, _, _]) rfl rfl) (.cons (.tmp rfl) .nil)) [] | refine Fin.q Try.results93 (.cons (.agg rfl rfl ud101 rfl inf101 (us := [_, _, _]) rfl rfl) (.cons (.tmp rfl) .nil)) [] (hr := (.tupL (.cons (.t ?_) (.cons (.t ?_) .nil)))) | refine Fin.mkv (rs := _) Try.results93 (.cons (.agg rfl rfl ud101 rfl inf101 (us := [_, _, _]) rfl rfl) (.cons (.tmp rfl) .nil)) [] (by decide) rfl ?_ ?_ ?_ <;> repeat' (skip; first | exact .nil | refine .cons rfl ?_ ?_ | refine .cons ?_ ?_ | refine .row ?_ | refine .rset ?_ | refine .box ?_ | exact .gone | refine .aggL ?_ | refine .tupL ?_ | refine .old rfl ?_ | refine .new rfl rfl rfl ?_ | exact .nl | exact .optr rfl | exact .nptr rfl rfl rfl | refine .t ?_ | exact .any _ | rfl)))
   all_goals simp [h3]
 ·by_cases h2 : w % 256 = 2
  ·rw [show decide ((w % 256 = 1 ∨ w % 256 = 2) ∧ w / 16777216 % 256 = 0) = decide (w / 16777216 % 256 = 0) from decide_eq_decide.2 (by omega)]
   refine Cd.enter' Try.func93 rfl Try.ntmps93 rfl ?_
   repeat' (first | ((with_reducible refine kAL ?_); (first | refine uA ?_ | refine uS 20 (fun hb => ?_) (fun hb => ?_) | refine uS 25 (fun hb => ?_) (fun hb => ?_))) | refine uC ?_ | refine kcp rfl (fun hc => ?_) (fun hc => ?_) | refine kcn rfl (fun hc => ?_) (fun hc => ?_) | refine kcb rfl (fun hc => ?_) (fun hc => ?_) | refine kcc rfl (fun hc => ?_) (fun hc => ?_) | fail)
   all_goals first | (exfalso; omega) | ((first | exact Fin.q Try.results93 (.cons (.agg rfl rfl ud101 rfl inf101 (us := [_, _, _]) rfl rfl) (.cons (.tmp rfl) .nil)) [] | refine Fin.q Try.results93 (.cons (.agg rfl rfl ud101 rfl inf101 (us := [_, _, _]) rfl rfl) (.cons (.tmp rfl) .nil)) [] (hr := (.tupL (.cons (.t ?_) (.cons (.t ?_) .nil)))) | refine Fin.mkv (rs := _) Try.results93 (.cons (.agg rfl rfl ud101 rfl inf101 (us := [_, _, _]) rfl rfl) (.cons (.tmp rfl) .nil)) [] (by decide) rfl ?_ ?_ ?_ <;> repeat' (skip; first | exact .nil | refine .cons rfl ?_ ?_ | refine .cons ?_ ?_ | refine .row ?_ | refine .rset ?_ | refine .box ?_ | exact .gone | refine .aggL ?_ | refine .tupL ?_ | refine .old rfl ?_ | refine .new rfl rfl rfl ?_ | exact .nl | exact .optr rfl | exact .nptr rfl rfl rfl | refine .t ?_ | exact .any _ | rfl)))
  ·rw [decide_eq_false (by omega)]
   refine Cd.enter' Try.func93 rfl Try.ntmps93 rfl ?_
   repeat' (first | ((with_reducible refine kAL ?_); (first | refine uA ?_ | refine uS 20 (fun hb => ?_) (fun hb => ?_) | refine uS 25 (fun hb => ?_) (fun hb => ?_))) | refine uC ?_ | refine kcp rfl (fun hc => ?_) (fun hc => ?_) | refine kcn rfl (fun hc => ?_) (fun hc => ?_) | refine kcb rfl (fun hc => ?_) (fun hc => ?_) | refine kcc rfl (fun hc => ?_) (fun hc => ?_) | fail)
   all_goals first | (exfalso; omega) | ((first | exact Fin.q Try.results93 (.cons (.agg rfl rfl ud101 rfl inf101 (us := [_, _, _]) rfl rfl) (.cons (.tmp rfl) .nil)) [] | refine Fin.q Try.results93 (.cons (.agg rfl rfl ud101 rfl inf101 (us := [_, _, _]) rfl rfl) (.cons (.tmp rfl) .nil)) [] (hr := (.tupL (.cons (.t ?_) (.cons (.t ?_) .nil)))) | refine Fin.mkv (rs := _) Try.results93 (.cons (.agg rfl rfl ud101 rfl inf101 (us := [_, _, _]) rfl rfl) (.cons (.tmp rfl) .nil)) [] (by decide) rfl ?_ ?_ ?_ <;> repeat' (skip; first | exact .nil | refine .cons rfl ?_ ?_ | refine .cons ?_ ?_ | refine .row ?_ | refine .rset ?_ | refine .box ?_ | exact .gone | refine .aggL ?_ | refine .tupL ?_ | refine .old rfl ?_ | refine .new rfl rfl rfl ?_ | exact .nl | exact .optr rfl | exact .nptr rfl rfl rfl | refine .t ?_ | exact .any _ | rfl)))
theorem mayC_no {h a b c p : Int} {i : Nat} (hi : i < 3) (hf : (if i < nR h then okW1 ([a, b, c].getD i 0) else decide ([a, b, c].getD i 0 = 0)) = false) : mayC h a b c p = false := by
 unfold mayC
 have : ((List.range 3).all fun i => if i < nR h then okW1 ([a, b, c].getD i 0) else decide ([a, b, c].getD i 0 = 0)) = false := by
  rw [List.all_eq_false]
  exact ⟨i, List.mem_range.2 hi, by rw [hf]; simp⟩
 rw [this, Bool.and_false]
theorem mayC_yes {h a b c p : Int} (hp : p ≤ 4294967295) (h1 : 1 ≤ h % 256 ∧ h % 256 ≤ 9 ∧ h / 256 % 16 ≤ 3 ∧ h / 4096 % 16 ≤ 1) (hf : ∀ i, i < 3 → (if i < nR h then okW1 ([a, b, c].getD i 0) else decide ([a, b, c].getD i 0 = 0)) = true) : mayC h a b c p = true := by
 unfold mayC
 rw [decide_eq_true hp, decide_eq_true h1, List.all_eq_true.2 fun i hi => hf i (List.mem_range.1 hi)]; rfl
theorem rreadcall_y (h a b c p : Int) (hh : 0 ≤ h ∧ h ≤ 18446744073709551615) (ha : 0 ≤ a ∧ a ≤ 18446744073709551615) (hb : 0 ≤ b ∧ b ≤ 18446744073709551615) (hc : 0 ≤ c ∧ c ≤ 18446744073709551615) (hp : 0 ≤ p ∧ p ≤ 18446744073709551615) (k1 : p ≤ 4294967295) (k2 : 1 ≤ h % 256 ∧ h % 256 ≤ 9 ∧ h / 256 % 16 ≤ 3 ∧ h / 4096 % 16 ≤ 1) : ∀ m, mayC h a b c p = m → Cd Try.prog 57 [.ln ([h, a, b, c, p].map tU)] (if m then .tup [.agg [i64 (h % 256), i64 (h / 65536 % 65536), i64 (h / 4294967296), bo (decide (h / 4096 % 2 = 1)), .sl 0 0 (nR h)], i64 p, bo true] else .tup [fRq ⟨0, 0, 0, false, []⟩, i64 0, bo false]) (if m then [.row 0 101 3 ((([a, b, c].take (nR h)).map caseR).map tCs)] else []) := by
 obtain ⟨hn, hn15⟩ := nR_e hh.1
 have x0 : ([h, a, b, c, p] : List Int)[0]? = some h := rfl
 have x4 : ([h, a, b, c, p] : List Int)[4]? = some p := rfl
 have hl : (([h, a, b, c, p] : List Int).map tU).length = 5 := rfl
 have hl2 : ([h, a, b, c, p] : List Int).length = 5 := rfl
 intro m hm
 have no := fun (i : Nat) hi hf => mayC_no (h := h) (a := a) (b := b) (c := c) (p := p) (i := i) hi hf
 have yes := mayC_yes (h := h) (a := a) (b := b) (c := c) k1 k2
 rw [hm] at no yes
 have hD1 : ∀ i, i < 3 → ([h, a, b, c, p] : List Int)[1 + i]? = some ([a, b, c].getD i 0) := by
  intro i hi
  have : i = 0 ∨ i = 1 ∨ i = 2 := by omega
  rcases this with rfl | rfl | rfl <;> rfl
 have hL : ∀ i, i < 3 → ([a, b, c] : List Int)[i]? = some ([a, b, c].getD i 0) := by
  intro i hi
  have : i = 0 ∨ i = 1 ∨ i = 2 := by omega
  rcases this with rfl | rfl | rfl <;> rfl
 have hB : ∀ i, i < 3 → 0 ≤ ([a, b, c] : List Int).getD i 0 ∧ ([a, b, c] : List Int).getD i 0 ≤ 18446744073709551615 := by
  intro i hi
  have : i = 0 ∨ i = 1 ∨ i = 2 := by omega
  rcases this with rfl | rfl | rfl <;> assumption
 have lL : ([a, b, c] : List Int).length = 3 := rfl
 have eD : decide (h / 4096 % 16 = 1) = decide (h / 4096 % 2 = 1) := decide_eq_decide.2 (by omega)
 generalize hD : ([h, a, b, c, p] : List Int) = D at *
 generalize ([a, b, c] : List Int) = L at *
 clear hm hD ha hb hc
 refine Cd.enter' Try.func57 rfl Try.ntmps57 rfl ?_
 repeat' (first | ((with_reducible refine kAL ?_); (first | (refine kL 12 rfl ?_; first | refine A_append_nlsub rfl rfl _ _ 61 rfl ud61 inf101 rfl rfl rfl rfl (by (try simp only [List.length_map, List.length_append, List.length_cons, List.length_nil]); omega) qB qB List.map_drop.symm (.push qL qN) ?_) | (refine kL 1967 rfl ?_; first | refine A_lit rfl rfl 61 1 _ rfl ud61 inf101 (.cons rfl .nil) (els := [[_, _, _]]) rfl (by first | exact qN) rfl (Nat.ne_of_beq_eq_false rfl) (Nat.le_of_ble_eq_true rfl) (Nat.le_of_ble_eq_true rfl) (.push qL qN) ?_) | refine uA ?_ | refine uS 15 (fun hb => ?_) (fun hb => ?_) | refine uS 46 (fun hb => ?_) (fun hb => ?_) | refine uS 51 (fun hb => ?_) (fun hb => ?_) | refine uS 55 (fun hb => ?_) (fun hb => ?_))) | refine uR ?_ | refine uC ?_ | refine kcp rfl (fun hc => ?_) (fun hc => ?_) | refine kcn rfl (fun hc => ?_) (fun hc => ?_) | refine kcb rfl (fun hc => ?_) (fun hc => ?_) | refine kcc rfl (fun hc => ?_) (fun hc => ?_) | refine AW.drawU (id := 20) mixed 0 qR ?_ | fail)
 all_goals first | (exfalso; omega) | skip
 rw [eD]
 refine AW.wk (Wk.ownB 1 4 rfl rfl 101 3 (.push rfl rfl) rfl) ?_
 refine AW.loopP (fun (i : Nat) => i ≤ 3 ∧ ∀ j, j < i → (if j < nR h then okW1 (L.getD j 0) else decide (L.getD j 0 = 0)) = true) (fun (i : Nat) => (pu (pu (pu (pu (pu (fun _ => .any) 0 (.ln (D.map tU))) 2 (.ptr 0 0)) 6 (.ptr 1 0)) 7 (i64 (h / 256 % 16))) 9 (i64 i))) (fun (i : Nat) => [.box 63 [i64 0, i64 0, i64 0, bo false, .nl], .box 63 [i64 (h % 256), i64 (h / 65536 % 65536), i64 (h / 4294967296), bo (decide (h / 4096 % 2 = 1)), .sl 2 (min i (nR h)) (min i (nR h))], .row (min i (nR h)) 101 3 (((L.take (min i (nR h))).map caseR).map tCs)]) (fun (i : Nat) => 3 - i) (0) ?_ ?_ ?_
 ·exact ⟨Nat.zero_le _, fun j hj => by omega⟩
 ·rw [Nat.zero_min, List.take_zero]
  exact Wk.cq 3
 ·rintro i ⟨hi, hall⟩
  by_cases hi3 : i < 3
  ·have hx : D[Int.toNat (1 + (i : Int))]? = some (L.getD i 0) := by rw [show Int.toNat (1 + (i : Int)) = 1 + i by omega]; exact hD1 i hi3
   have hx2 := hL i hi3
   have hwb := hB i hi3
   have no1 := no i hi3
   have al : ∀ q, (if i < nR h then okW1 (L.getD i 0) else decide (L.getD i 0 = 0)) = q → q = true → ∀ j, j < i + 1 → (if j < nR h then okW1 (L.getD j 0) else decide (L.getD j 0 = 0)) = true := by
    intro q hq e j hj
    by_cases g : j = i
    ·rw [g, hq]; exact e
    ·exact hall j (by omega)
   generalize hw : L.getD i 0 = w at hx hx2 hwb no1 al
   by_cases hin : i < nR h
   ·rw [if_pos hin] at no1 al
    have c1 := rone_c w hwb
    cases ho : okW1 w
    ·obtain rfl := no1 ho
     rw [ho] at c1
     dsimp only [caseR] at c1
     clear al yes no hD1 hL hB hall x0
     repeat' (first | ((with_reducible refine kAL ?_); (first | (refine kL 2030 rfl ?_; first | (refine zkD 21 rfl ?_; refine uA ?_; (try refine uz 21 ?_)) | (refine zkD 59 rfl ?_; refine uA ?_; (try refine uz 59 ?_)) | (refine zkD 76 rfl ?_; refine uA ?_; (try refine uz 76 ?_)) | (refine zkD 88 rfl ?_; refine uA ?_; (try refine uz 88 ?_))) | (refine kL 12 rfl ?_; first | refine A_append_nlsub rfl rfl _ _ 61 rfl ud61 inf101 rfl rfl rfl rfl (by (try simp only [List.length_map, List.length_append, List.length_cons, List.length_nil]); omega) qB qB List.map_drop.symm (.push qL qN) ?_) | (refine kL 2986 rfl ?_; first | refine uK (c1) ?_) | (refine kL 1967 rfl ?_; first | refine A_lit rfl rfl 61 1 _ rfl ud61 inf101 (.cons rfl .nil) (els := [[_, _, _]]) rfl (by first | exact qN) rfl (Nat.ne_of_beq_eq_false rfl) (Nat.le_of_ble_eq_true rfl) (Nat.le_of_ble_eq_true rfl) (.push qL qN) ?_) | refine uA ?_ | refine uS 15 (fun hb => ?_) (fun hb => ?_) | refine uS 46 (fun hb => ?_) (fun hb => ?_) | refine uS 51 (fun hb => ?_) (fun hb => ?_) | refine uS 55 (fun hb => ?_) (fun hb => ?_))) | refine uR ?_ | refine uC ?_ | refine kcp rfl (fun hc => ?_) (fun hc => ?_) | refine kcn rfl (fun hc => ?_) (fun hc => ?_) | refine kcb rfl (fun hc => ?_) (fun hc => ?_) | refine kcc rfl (fun hc => ?_) (fun hc => ?_) | refine AW.drawU (id := 20) mixed 0 qR ?_ | fail)
     all_goals first | (exfalso; omega) | ((first | exact Fin.q Try.results57 (.cons (.agg rfl rfl ud63 rfl inf63 (us := [_, _, _, _, _]) rfl rfl) (.cons (.tmp rfl) (.cons (.tmp rfl) .nil))) [] | refine Fin.q Try.results57 (.cons (.agg rfl rfl ud63 rfl inf63 (us := [_, _, _, _, _]) rfl rfl) (.cons (.tmp rfl) (.cons (.tmp rfl) .nil))) [] (hr := (.tupL (.cons (.t ?_) (.cons (.t ?_) (.cons (.t ?_) .nil))))) | refine Fin.mkv (rs := _) Try.results57 (.cons (.agg rfl rfl ud63 rfl inf63 (us := [_, _, _, _, _]) rfl rfl) (.cons (.tmp rfl) (.cons (.tmp rfl) .nil))) [] (by decide) rfl ?_ ?_ ?_ <;> repeat' (skip; first | exact .nil | refine .cons rfl ?_ ?_ | refine .cons ?_ ?_ | refine .row ?_ | refine .rset ?_ | refine .box ?_ | exact .gone | refine .aggL ?_ | refine .tupL ?_ | refine .old rfl ?_ | refine .new rfl rfl rfl ?_ | exact .nl | exact .optr rfl | exact .nptr rfl rfl rfl | refine .t ?_ | exact .any _ | rfl)))
    ·rw [ho] at c1
     have e1 : min i (nR h) = i := by omega
     have e2 : min (i + 1) (nR h) = i + 1 := by omega
     have hs : (L.take (i + 1)).map caseR = (L.take i).map caseR ++ [caseR w] := by rw [List.take_add_one, hx2]; simp
     have hM : ((L.take i).map caseR).length = i := by rw [List.length_map, List.length_take]; omega
     have al2 := al _ rfl ho
     rw [e1]
     rw [show caseR w = ⟨w % 256, w / 256 % 65536, w / 4294967296⟩ from rfl] at hs
     dsimp only [caseR] at c1
     generalize (L.take i).map caseR = M at *
     have hM2 : (M.map tCs).length = i := by rw [List.length_map, hM]
     clear al yes no hD1 hL hB x0 hall
     repeat' (first | ((with_reducible refine kAL ?_); (first | (refine kL 12 rfl ?_; first | refine A_append_nlsub rfl rfl _ _ 61 rfl ud61 inf101 rfl rfl rfl rfl (by (try simp only [List.length_map, List.length_append, List.length_cons, List.length_nil]); omega) qB qB List.map_drop.symm (.push qL qN) ?_) | (refine kL 2986 rfl ?_; first | refine uK (c1) ?_) | (refine kL 1967 rfl ?_; first | refine A_lit rfl rfl 61 1 _ rfl ud61 inf101 (.cons rfl .nil) (els := [[_, _, _]]) rfl (by first | exact qN) rfl (Nat.ne_of_beq_eq_false rfl) (Nat.le_of_ble_eq_true rfl) (Nat.le_of_ble_eq_true rfl) (.push qL qN) ?_) | refine uA ?_ | refine uS 15 (fun hb => ?_) (fun hb => ?_) | refine uS 46 (fun hb => ?_) (fun hb => ?_) | refine uS 51 (fun hb => ?_) (fun hb => ?_) | refine uS 55 (fun hb => ?_) (fun hb => ?_))) | refine uR ?_ | refine uC ?_ | refine kcp rfl (fun hc => ?_) (fun hc => ?_) | refine kcn rfl (fun hc => ?_) (fun hc => ?_) | refine kcb rfl (fun hc => ?_) (fun hc => ?_) | refine kcc rfl (fun hc => ?_) (fun hc => ?_) | refine AW.drawU (id := 20) mixed 0 qR ?_ | fail)
     all_goals first | (exfalso; omega) | skip
     refine ⟨i + 1, ⟨by omega, al2⟩, by omega, ?_⟩
     rw [e2, hs]
     exact Wk.cq 3
   ·rw [if_neg hin] at no1 al
    by_cases hz : w = 0
    ·have e1 : min i (nR h) = nR h := by omega
     have e2 : min (i + 1) (nR h) = nR h := by omega
     have al2 := al _ rfl (decide_eq_true hz)
     rw [e1]
     clear al yes no hD1 hL hB x0 hall no1
     repeat' (first | ((with_reducible refine kAL ?_); (first | (refine kL 12 rfl ?_; first | refine A_append_nlsub rfl rfl _ _ 61 rfl ud61 inf101 rfl rfl rfl rfl (by (try simp only [List.length_map, List.length_append, List.length_cons, List.length_nil]); omega) qB qB List.map_drop.symm (.push qL qN) ?_) | (refine kL 1967 rfl ?_; first | refine A_lit rfl rfl 61 1 _ rfl ud61 inf101 (.cons rfl .nil) (els := [[_, _, _]]) rfl (by first | exact qN) rfl (Nat.ne_of_beq_eq_false rfl) (Nat.le_of_ble_eq_true rfl) (Nat.le_of_ble_eq_true rfl) (.push qL qN) ?_) | refine uA ?_ | refine uS 15 (fun hb => ?_) (fun hb => ?_) | refine uS 46 (fun hb => ?_) (fun hb => ?_) | refine uS 51 (fun hb => ?_) (fun hb => ?_) | refine uS 55 (fun hb => ?_) (fun hb => ?_))) | refine uR ?_ | refine uC ?_ | refine kcp rfl (fun hc => ?_) (fun hc => ?_) | refine kcn rfl (fun hc => ?_) (fun hc => ?_) | refine kcb rfl (fun hc => ?_) (fun hc => ?_) | refine kcc rfl (fun hc => ?_) (fun hc => ?_) | refine AW.drawU (id := 20) mixed 0 qR ?_ | fail)
     all_goals first | (exfalso; omega) | skip
     refine ⟨i + 1, ⟨by omega, al2⟩, by omega, ?_⟩
     rw [e2]
     exact Wk.cq 3
    ·obtain rfl := no1 (decide_eq_false hz)
     clear al yes no hD1 hL hB x0 hall
     repeat' (first | ((with_reducible refine kAL ?_); (first | (refine kL 2030 rfl ?_; first | (refine zkD 21 rfl ?_; refine uA ?_; (try refine uz 21 ?_)) | (refine zkD 59 rfl ?_; refine uA ?_; (try refine uz 59 ?_)) | (refine zkD 76 rfl ?_; refine uA ?_; (try refine uz 76 ?_)) | (refine zkD 88 rfl ?_; refine uA ?_; (try refine uz 88 ?_))) | (refine kL 12 rfl ?_; first | refine A_append_nlsub rfl rfl _ _ 61 rfl ud61 inf101 rfl rfl rfl rfl (by (try simp only [List.length_map, List.length_append, List.length_cons, List.length_nil]); omega) qB qB List.map_drop.symm (.push qL qN) ?_) | (refine kL 1967 rfl ?_; first | refine A_lit rfl rfl 61 1 _ rfl ud61 inf101 (.cons rfl .nil) (els := [[_, _, _]]) rfl (by first | exact qN) rfl (Nat.ne_of_beq_eq_false rfl) (Nat.le_of_ble_eq_true rfl) (Nat.le_of_ble_eq_true rfl) (.push qL qN) ?_) | refine uA ?_ | refine uS 15 (fun hb => ?_) (fun hb => ?_) | refine uS 46 (fun hb => ?_) (fun hb => ?_) | refine uS 51 (fun hb => ?_) (fun hb => ?_) | refine uS 55 (fun hb => ?_) (fun hb => ?_))) | refine uR ?_ | refine uC ?_ | refine kcp rfl (fun hc => ?_) (fun hc => ?_) | refine kcn rfl (fun hc => ?_) (fun hc => ?_) | refine kcb rfl (fun hc => ?_) (fun hc => ?_) | refine kcc rfl (fun hc => ?_) (fun hc => ?_) | refine AW.drawU (id := 20) mixed 0 qR ?_ | fail)
     all_goals first | (exfalso; omega) | ((first | exact Fin.q Try.results57 (.cons (.agg rfl rfl ud63 rfl inf63 (us := [_, _, _, _, _]) rfl rfl) (.cons (.tmp rfl) (.cons (.tmp rfl) .nil))) [] | refine Fin.q Try.results57 (.cons (.agg rfl rfl ud63 rfl inf63 (us := [_, _, _, _, _]) rfl rfl) (.cons (.tmp rfl) (.cons (.tmp rfl) .nil))) [] (hr := (.tupL (.cons (.t ?_) (.cons (.t ?_) (.cons (.t ?_) .nil))))) | refine Fin.mkv (rs := _) Try.results57 (.cons (.agg rfl rfl ud63 rfl inf63 (us := [_, _, _, _, _]) rfl rfl) (.cons (.tmp rfl) (.cons (.tmp rfl) .nil))) [] (by decide) rfl ?_ ?_ ?_ <;> repeat' (skip; first | exact .nil | refine .cons rfl ?_ ?_ | refine .cons ?_ ?_ | refine .row ?_ | refine .rset ?_ | refine .box ?_ | exact .gone | refine .aggL ?_ | refine .tupL ?_ | refine .old rfl ?_ | refine .new rfl rfl rfl ?_ | exact .nl | exact .optr rfl | exact .nptr rfl rfl rfl | refine .t ?_ | exact .any _ | rfl)))
  ·obtain rfl := yes (fun j hj => hall j (by omega))
   have e1 : min i (nR h) = nR h := by omega
   rw [e1]
   clear no hD1 hL hB x0 hall
   repeat' (first | ((with_reducible refine kAL ?_); (first | (refine kL 12 rfl ?_; first | refine A_append_nlsub rfl rfl _ _ 61 rfl ud61 inf101 rfl rfl rfl rfl (by (try simp only [List.length_map, List.length_append, List.length_cons, List.length_nil]); omega) qB qB List.map_drop.symm (.push qL qN) ?_) | (refine kL 1967 rfl ?_; first | refine A_lit rfl rfl 61 1 _ rfl ud61 inf101 (.cons rfl .nil) (els := [[_, _, _]]) rfl (by first | exact qN) rfl (Nat.ne_of_beq_eq_false rfl) (Nat.le_of_ble_eq_true rfl) (Nat.le_of_ble_eq_true rfl) (.push qL qN) ?_) | refine uA ?_ | refine uS 15 (fun hb => ?_) (fun hb => ?_) | refine uS 46 (fun hb => ?_) (fun hb => ?_) | refine uS 51 (fun hb => ?_) (fun hb => ?_) | refine uS 55 (fun hb => ?_) (fun hb => ?_))) | refine uR ?_ | refine uC ?_ | refine kcp rfl (fun hc => ?_) (fun hc => ?_) | refine kcn rfl (fun hc => ?_) (fun hc => ?_) | refine kcb rfl (fun hc => ?_) (fun hc => ?_) | refine kcc rfl (fun hc => ?_) (fun hc => ?_) | refine AW.drawU (id := 20) mixed 0 qR ?_ | fail)
   all_goals first | (exfalso; omega) | ((first | exact Fin.q Try.results57 (.cons (.agg rfl rfl ud63 rfl inf63 (us := [_, _, _, _, _]) rfl rfl) (.cons (.tmp rfl) (.cons (.tmp rfl) .nil))) [2] | refine Fin.q Try.results57 (.cons (.agg rfl rfl ud63 rfl inf63 (us := [_, _, _, _, _]) rfl rfl) (.cons (.tmp rfl) (.cons (.tmp rfl) .nil))) [2] (hr := (.tupL (.cons (.t ?_) (.cons (.t ?_) (.cons (.t ?_) .nil))))) | refine Fin.mkv (rs := _) Try.results57 (.cons (.agg rfl rfl ud63 rfl inf63 (us := [_, _, _, _, _]) rfl rfl) (.cons (.tmp rfl) (.cons (.tmp rfl) .nil))) [2] (by decide) rfl ?_ ?_ ?_ <;> repeat' (skip; first | exact .nil | refine .cons rfl ?_ ?_ | refine .cons ?_ ?_ | refine .row ?_ | refine .rset ?_ | refine .box ?_ | exact .gone | refine .aggL ?_ | refine .tupL ?_ | refine .old rfl ?_ | refine .new rfl rfl rfl ?_ | exact .nl | exact .optr rfl | exact .nptr rfl rfl rfl | refine .t ?_ | exact .any _ | rfl)))
theorem rreadcall_n (h a b c p : Int) (hh : 0 ≤ h ∧ h ≤ 18446744073709551615) (ha : 0 ≤ a ∧ a ≤ 18446744073709551615) (hb : 0 ≤ b ∧ b ≤ 18446744073709551615) (hc : 0 ≤ c ∧ c ≤ 18446744073709551615) (hp : 0 ≤ p ∧ p ≤ 18446744073709551615) (hk : ¬ (p ≤ 4294967295 ∧ 1 ≤ h % 256 ∧ h % 256 ≤ 9 ∧ h / 256 % 16 ≤ 3 ∧ h / 4096 % 16 ≤ 1)) : Cd Try.prog 57 [.ln ([h, a, b, c, p].map tU)] (.tup [fRq (reqC h a b c p), i64 (phC h a b c p), bo (mayC h a b c p)]) [] := by
 obtain ⟨hn, hn15⟩ := nR_e hh.1
 have x0 : ([h, a, b, c, p] : List Int)[0]? = some h := rfl
 have x4 : ([h, a, b, c, p] : List Int)[4]? = some p := rfl
 have hl : (([h, a, b, c, p] : List Int).map tU).length = 5 := rfl
 have hl2 : ([h, a, b, c, p] : List Int).length = 5 := rfl
 have hm : mayC h a b c p = false := by
  unfold mayC
  by_cases k1 : p ≤ 4294967295
  ·rw [decide_eq_false (p := 1 ≤ h % 256 ∧ h % 256 ≤ 9 ∧ h / 256 % 16 ≤ 3 ∧ h / 4096 % 16 ≤ 1) (by omega)]; simp
  ·rw [decide_eq_false k1]; simp
 unfold reqC phC
 rw [hm, if_neg (by simp), if_neg (by simp)]
 generalize hD : ([h, a, b, c, p] : List Int) = D at *
 clear hD hm ha hb hc hn hn15
 by_cases h1 : p ≤ 4294967295
 ·by_cases h2 : 1 ≤ h % 256
  ·by_cases h3 : h % 256 ≤ 9
   ·by_cases h4 : h / 256 % 16 ≤ 3
    all_goals
     refine Cd.enter' Try.func57 rfl Try.ntmps57 rfl ?_
     repeat' (first | ((with_reducible refine kAL ?_); (first | (refine kL 2030 rfl ?_; first | (refine zkD 21 rfl ?_; refine uA ?_; (try refine uz 21 ?_)) | (refine zkD 59 rfl ?_; refine uA ?_; (try refine uz 59 ?_))) | (refine kL 12 rfl ?_; first | refine A_append_nlsub rfl rfl _ _ 61 rfl ud61 inf101 rfl rfl rfl rfl (by (try simp only [List.length_map, List.length_append, List.length_cons, List.length_nil]); omega) qB qB List.map_drop.symm (.push qL qN) ?_) | (refine kL 1967 rfl ?_; first | refine A_lit rfl rfl 61 1 _ rfl ud61 inf101 (.cons rfl .nil) (els := [[_, _, _]]) rfl (by first | exact qN) rfl (Nat.ne_of_beq_eq_false rfl) (Nat.le_of_ble_eq_true rfl) (Nat.le_of_ble_eq_true rfl) (.push qL qN) ?_) | refine uA ?_ | refine uS 15 (fun hb => ?_) (fun hb => ?_) | refine uS 46 (fun hb => ?_) (fun hb => ?_) | refine uS 51 (fun hb => ?_) (fun hb => ?_) | refine uS 55 (fun hb => ?_) (fun hb => ?_))) | refine uR ?_ | refine uC ?_ | refine kcp rfl (fun hc => ?_) (fun hc => ?_) | refine kcn rfl (fun hc => ?_) (fun hc => ?_) | refine kcb rfl (fun hc => ?_) (fun hc => ?_) | refine kcc rfl (fun hc => ?_) (fun hc => ?_) | refine AW.drawU (id := 20) mixed 0 qR ?_ | fail)
     all_goals first | (exfalso; omega) | ((first | exact Fin.q Try.results57 (.cons (.agg rfl rfl ud63 rfl inf63 (us := [_, _, _, _, _]) rfl rfl) (.cons (.tmp rfl) (.cons (.tmp rfl) .nil))) [] | refine Fin.q Try.results57 (.cons (.agg rfl rfl ud63 rfl inf63 (us := [_, _, _, _, _]) rfl rfl) (.cons (.tmp rfl) (.cons (.tmp rfl) .nil))) [] (hr := (.tupL (.cons (.t ?_) (.cons (.t ?_) (.cons (.t ?_) .nil))))) | refine Fin.mkv (rs := _) Try.results57 (.cons (.agg rfl rfl ud63 rfl inf63 (us := [_, _, _, _, _]) rfl rfl) (.cons (.tmp rfl) (.cons (.tmp rfl) .nil))) [] (by decide) rfl ?_ ?_ ?_ <;> repeat' (skip; first | exact .nil | refine .cons rfl ?_ ?_ | refine .cons ?_ ?_ | refine .row ?_ | refine .rset ?_ | refine .box ?_ | exact .gone | refine .aggL ?_ | refine .tupL ?_ | refine .old rfl ?_ | refine .new rfl rfl rfl ?_ | exact .nl | exact .optr rfl | exact .nptr rfl rfl rfl | refine .t ?_ | exact .any _ | rfl)))
   ·refine Cd.enter' Try.func57 rfl Try.ntmps57 rfl ?_
    repeat' (first | ((with_reducible refine kAL ?_); (first | (refine kL 2030 rfl ?_; first | (refine zkD 21 rfl ?_; refine uA ?_; (try refine uz 21 ?_)) | (refine zkD 59 rfl ?_; refine uA ?_; (try refine uz 59 ?_))) | (refine kL 12 rfl ?_; first | refine A_append_nlsub rfl rfl _ _ 61 rfl ud61 inf101 rfl rfl rfl rfl (by (try simp only [List.length_map, List.length_append, List.length_cons, List.length_nil]); omega) qB qB List.map_drop.symm (.push qL qN) ?_) | (refine kL 1967 rfl ?_; first | refine A_lit rfl rfl 61 1 _ rfl ud61 inf101 (.cons rfl .nil) (els := [[_, _, _]]) rfl (by first | exact qN) rfl (Nat.ne_of_beq_eq_false rfl) (Nat.le_of_ble_eq_true rfl) (Nat.le_of_ble_eq_true rfl) (.push qL qN) ?_) | refine uA ?_ | refine uS 15 (fun hb => ?_) (fun hb => ?_) | refine uS 46 (fun hb => ?_) (fun hb => ?_) | refine uS 51 (fun hb => ?_) (fun hb => ?_) | refine uS 55 (fun hb => ?_) (fun hb => ?_))) | refine uR ?_ | refine uC ?_ | refine kcp rfl (fun hc => ?_) (fun hc => ?_) | refine kcn rfl (fun hc => ?_) (fun hc => ?_) | refine kcb rfl (fun hc => ?_) (fun hc => ?_) | refine kcc rfl (fun hc => ?_) (fun hc => ?_) | refine AW.drawU (id := 20) mixed 0 qR ?_ | fail)
    all_goals first | (exfalso; omega) | ((first | exact Fin.q Try.results57 (.cons (.agg rfl rfl ud63 rfl inf63 (us := [_, _, _, _, _]) rfl rfl) (.cons (.tmp rfl) (.cons (.tmp rfl) .nil))) [] | refine Fin.q Try.results57 (.cons (.agg rfl rfl ud63 rfl inf63 (us := [_, _, _, _, _]) rfl rfl) (.cons (.tmp rfl) (.cons (.tmp rfl) .nil))) [] (hr := (.tupL (.cons (.t ?_) (.cons (.t ?_) (.cons (.t ?_) .nil))))) | refine Fin.mkv (rs := _) Try.results57 (.cons (.agg rfl rfl ud63 rfl inf63 (us := [_, _, _, _, _]) rfl rfl) (.cons (.tmp rfl) (.cons (.tmp rfl) .nil))) [] (by decide) rfl ?_ ?_ ?_ <;> repeat' (skip; first | exact .nil | refine .cons rfl ?_ ?_ | refine .cons ?_ ?_ | refine .row ?_ | refine .rset ?_ | refine .box ?_ | exact .gone | refine .aggL ?_ | refine .tupL ?_ | refine .old rfl ?_ | refine .new rfl rfl rfl ?_ | exact .nl | exact .optr rfl | exact .nptr rfl rfl rfl | refine .t ?_ | exact .any _ | rfl)))
  ·refine Cd.enter' Try.func57 rfl Try.ntmps57 rfl ?_
   repeat' (first | ((with_reducible refine kAL ?_); (first | (refine kL 2030 rfl ?_; first | (refine zkD 21 rfl ?_; refine uA ?_; (try refine uz 21 ?_)) | (refine zkD 59 rfl ?_; refine uA ?_; (try refine uz 59 ?_))) | (refine kL 12 rfl ?_; first | refine A_append_nlsub rfl rfl _ _ 61 rfl ud61 inf101 rfl rfl rfl rfl (by (try simp only [List.length_map, List.length_append, List.length_cons, List.length_nil]); omega) qB qB List.map_drop.symm (.push qL qN) ?_) | (refine kL 1967 rfl ?_; first | refine A_lit rfl rfl 61 1 _ rfl ud61 inf101 (.cons rfl .nil) (els := [[_, _, _]]) rfl (by first | exact qN) rfl (Nat.ne_of_beq_eq_false rfl) (Nat.le_of_ble_eq_true rfl) (Nat.le_of_ble_eq_true rfl) (.push qL qN) ?_) | refine uA ?_ | refine uS 15 (fun hb => ?_) (fun hb => ?_) | refine uS 46 (fun hb => ?_) (fun hb => ?_) | refine uS 51 (fun hb => ?_) (fun hb => ?_) | refine uS 55 (fun hb => ?_) (fun hb => ?_))) | refine uR ?_ | refine uC ?_ | refine kcp rfl (fun hc => ?_) (fun hc => ?_) | refine kcn rfl (fun hc => ?_) (fun hc => ?_) | refine kcb rfl (fun hc => ?_) (fun hc => ?_) | refine kcc rfl (fun hc => ?_) (fun hc => ?_) | refine AW.drawU (id := 20) mixed 0 qR ?_ | fail)
   all_goals first | (exfalso; omega) | ((first | exact Fin.q Try.results57 (.cons (.agg rfl rfl ud63 rfl inf63 (us := [_, _, _, _, _]) rfl rfl) (.cons (.tmp rfl) (.cons (.tmp rfl) .nil))) [] | refine Fin.q Try.results57 (.cons (.agg rfl rfl ud63 rfl inf63 (us := [_, _, _, _, _]) rfl rfl) (.cons (.tmp rfl) (.cons (.tmp rfl) .nil))) [] (hr := (.tupL (.cons (.t ?_) (.cons (.t ?_) (.cons (.t ?_) .nil))))) | refine Fin.mkv (rs := _) Try.results57 (.cons (.agg rfl rfl ud63 rfl inf63 (us := [_, _, _, _, _]) rfl rfl) (.cons (.tmp rfl) (.cons (.tmp rfl) .nil))) [] (by decide) rfl ?_ ?_ ?_ <;> repeat' (skip; first | exact .nil | refine .cons rfl ?_ ?_ | refine .cons ?_ ?_ | refine .row ?_ | refine .rset ?_ | refine .box ?_ | exact .gone | refine .aggL ?_ | refine .tupL ?_ | refine .old rfl ?_ | refine .new rfl rfl rfl ?_ | exact .nl | exact .optr rfl | exact .nptr rfl rfl rfl | refine .t ?_ | exact .any _ | rfl)))
 ·refine Cd.enter' Try.func57 rfl Try.ntmps57 rfl ?_
  repeat' (first | ((with_reducible refine kAL ?_); (first | (refine kL 2030 rfl ?_; first | (refine zkD 21 rfl ?_; refine uA ?_; (try refine uz 21 ?_)) | (refine zkD 59 rfl ?_; refine uA ?_; (try refine uz 59 ?_))) | (refine kL 12 rfl ?_; first | refine A_append_nlsub rfl rfl _ _ 61 rfl ud61 inf101 rfl rfl rfl rfl (by (try simp only [List.length_map, List.length_append, List.length_cons, List.length_nil]); omega) qB qB List.map_drop.symm (.push qL qN) ?_) | (refine kL 1967 rfl ?_; first | refine A_lit rfl rfl 61 1 _ rfl ud61 inf101 (.cons rfl .nil) (els := [[_, _, _]]) rfl (by first | exact qN) rfl (Nat.ne_of_beq_eq_false rfl) (Nat.le_of_ble_eq_true rfl) (Nat.le_of_ble_eq_true rfl) (.push qL qN) ?_) | refine uA ?_ | refine uS 15 (fun hb => ?_) (fun hb => ?_) | refine uS 46 (fun hb => ?_) (fun hb => ?_) | refine uS 51 (fun hb => ?_) (fun hb => ?_) | refine uS 55 (fun hb => ?_) (fun hb => ?_))) | refine uR ?_ | refine uC ?_ | refine kcp rfl (fun hc => ?_) (fun hc => ?_) | refine kcn rfl (fun hc => ?_) (fun hc => ?_) | refine kcb rfl (fun hc => ?_) (fun hc => ?_) | refine kcc rfl (fun hc => ?_) (fun hc => ?_) | refine AW.drawU (id := 20) mixed 0 qR ?_ | fail)
  all_goals first | (exfalso; omega) | ((first | exact Fin.q Try.results57 (.cons (.agg rfl rfl ud63 rfl inf63 (us := [_, _, _, _, _]) rfl rfl) (.cons (.tmp rfl) (.cons (.tmp rfl) .nil))) [] | refine Fin.q Try.results57 (.cons (.agg rfl rfl ud63 rfl inf63 (us := [_, _, _, _, _]) rfl rfl) (.cons (.tmp rfl) (.cons (.tmp rfl) .nil))) [] (hr := (.tupL (.cons (.t ?_) (.cons (.t ?_) (.cons (.t ?_) .nil))))) | refine Fin.mkv (rs := _) Try.results57 (.cons (.agg rfl rfl ud63 rfl inf63 (us := [_, _, _, _, _]) rfl rfl) (.cons (.tmp rfl) (.cons (.tmp rfl) .nil))) [] (by decide) rfl ?_ ?_ ?_ <;> repeat' (skip; first | exact .nil | refine .cons rfl ?_ ?_ | refine .cons ?_ ?_ | refine .row ?_ | refine .rset ?_ | refine .box ?_ | exact .gone | refine .aggL ?_ | refine .tupL ?_ | refine .old rfl ?_ | refine .new rfl rfl rfl ?_ | exact .nl | exact .optr rfl | exact .nptr rfl rfl rfl | refine .t ?_ | exact .any _ | rfl)))
theorem rreadcall_c (h a b c p : Int) (hh : 0 ≤ h ∧ h ≤ 18446744073709551615) (ha : 0 ≤ a ∧ a ≤ 18446744073709551615) (hb : 0 ≤ b ∧ b ≤ 18446744073709551615) (hc : 0 ≤ c ∧ c ≤ 18446744073709551615) (hp : 0 ≤ p ∧ p ≤ 18446744073709551615) :
  Cd Try.prog 57 [.ln ([h, a, b, c, p].map tU)] (.tup [fRq (reqC h a b c p), i64 (phC h a b c p), bo (mayC h a b c p)]) [] := by
 obtain ⟨hn, hn15⟩ := nR_e hh.1
 by_cases hk : p ≤ 4294967295 ∧ 1 ≤ h % 256 ∧ h % 256 ≤ 9 ∧ h / 256 % 16 ≤ 3 ∧ h / 4096 % 16 ≤ 1
 ·have h0 := rreadcall_y h a b c p hh ha hb hc hp hk.1 hk.2
  unfold reqC phC
  cases hm : mayC h a b c p
  ·have h1 := h0 false hm
   simp only [Bool.false_eq_true, if_false] at h1 ⊢
   exact h1
  ·have h1 := h0 true hm
   simp only [if_true] at h1 ⊢
   have e : (([a, b, c].take (nR h)).map caseR).length = nR h := by rw [List.length_map, List.length_take]; simp only [List.length_cons, List.length_nil]; omega
   rw [show reqR h a b c = ⟨h % 256, h / 65536 % 65536, h / 4294967296, decide (h / 4096 % 2 = 1), ([a, b, c].take (nR h)).map caseR⟩ from rfl]
   generalize ([a, b, c].take (nR h)).map caseR = M at *
   rw [← e] at h1
   have h1' := Cd.frz h1 0 rfl (by repeat' (first | exact FzL.nil | apply FzL.cons | exact FzR.nlt | exact FzR.all (by first | rfl | (simp <;> fail) | (simp; omega)) | exact FzR.sl (by first | exact Nat.le_refl _ | (simp <;> fail) | (simp; omega)) | apply FzR.aggL | exact FzR.same _)) rfl; exact Cd.drop h1' rfl
 ·exact rreadcall_n h a b c p hh ha hb hc hp hk
end
end Go.Proofs.Ytnfbggpkiekpdaa
