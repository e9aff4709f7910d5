/- Joined: XTWords15, XTSmall, XTFrzA. -/
import Derived.Test.YtnfbggpkiekpdaaKR15h
import Derived.Test.YtnfbggpkiekpdaaKR15q
import Derived.Test.YtnfbggpkiekpdaaKR15r
import Derived.Test.YtnfbggpkiekpdaaKR15e
import Derived.Test.YtnfbggpkiekpdaaKR15c
namespace Go.Proofs.Ytnfbggpkiekpdaa
open Go.RowKit
set_option linter.unusedVariables false
set_option linter.unusedSimpArgs false
set_option linter.unnecessarySimpa false
set_option maxRecDepth 100000
set_option maxHeartbeats 64000000
section
attribute [local irreducible] AL AW RG Fin C Cd Cio thenQ blockQ retQ
set_option maxRecDepth 100000
theorem rwords_c (c : DConf) (hs : c.start.length ≤ 1152921504606846976) (N A : Nat) (h : Su c N A) : Cd Try.prog 45 [fCf c] (fU (setupL c)) [] := by
 have hl := setupL_len h
 have h0 : Cd Try.prog 45 [fCf c] (.sl 0 0 (setupL c).length) [.row 0 69 1 ((setupL c).map tU)] := by
  rw [hl]
  have h1 := h.room
  have h2 := h.lo
  have h3 := h.hi
  have hc : chkL c = 0 := by unfold chkL; rw [h.chk, if_pos rfl, if_neg (by have := h.tot; omega)]
  have c1 := rchkL_c c hs
  have c2 := rtotL_c c hs
  have c3 := rnodeL_c c hs 0
  have c4 := rstart_o c hs
  rw [hc] at c1
  rw [h.tot] at c2
  rw [h.node] at c3
  have e3 : setupL c = pokeL (((List.replicate N (0 : Int)).set 0 65537).set A 1) (A + 1) (startO c) := by
   unfold setupL; rw [h.nat, h.at0, pokeL_one (List.replicate N 0) (a := 0) 65537 (by rw [List.length_replicate]; omega), pokeL_one _ (a := A) 1 (by rw [List.length_set, List.length_replicate]; omega)]
  have hz : (((List.replicate N (0 : Int)).set 0 65537).set A 1).length = N := by rw [List.length_set, List.length_set, List.length_replicate]
  have hz1 : (List.replicate N (0 : Int)).length = N := List.length_replicate
  have hz2 : ((List.replicate N (0 : Int)).set 0 65537).length = N := by rw [List.length_set, List.length_replicate]
  rw [e3]
  generalize startO c = st at *
  have hst : (st.map tU).length = st.length := List.length_map _
  refine Cd.enter' Try.func45 rfl Try.ntmps45 rfl ?_
  repeat' (first | ((with_reducible refine kAL ?_); (first | (refine kL 1322 rfl ?_; first | refine uK (c1) ?_) | (refine kL 1258 rfl ?_; first | refine uK (c2) ?_) | (refine kL 816 rfl ?_; first | refine A_make rfl rfl 25 _ _ rfl ud25 inf69 rfl (zs := [(.v (.int .u64 0))]) rfl rfl rfl N (by first | rfl | assumption | omega) (by first | rfl | assumption | omega) qB qB (by first | exact rep_map (f := tU) (x := _) | exact qN) (.push qL qN) ?_ | refine A_make rfl rfl 25 _ _ rfl ud25 inf69 rfl (zs := [(.v (.int .u64 0))]) rfl rfl rfl _ (by first | rfl | assumption | omega) (by first | rfl | assumption | omega) qB qB (by first | exact rep_map (f := tU) (x := _) | exact qN) (.push qL qN) ?_) | (refine kL 1194 rfl ?_; first | refine uK (c3) ?_) | (refine kL 2570 rfl ?_; first | refine uK (c4) ?_) | refine uA ?_)) | refine uC ?_ | refine kcp rfl (fun hc => ?_) (fun hc => ?_) | refine kcn rfl (fun hc => ?_) (fun hc => ?_) | refine kcb rfl (fun hc => ?_) (fun hc => ?_) | refine kcc rfl (fun hc => ?_) (fun hc => ?_) | fail)
  all_goals first | (exfalso; omega) | skip
  generalize ((List.replicate N (0 : Int)).set 0 65537).set A 1 = l2 at *
  refine AW.loopP (fun (i : Nat) => i ≤ st.length) (fun (i : Nat) => (pu (pu (pu (pu (pu (fun _ => .any) 3 (.sl 1 0 N)) 4 (i64 A)) 21 (fU st)) 22 (i64 (st.map tU).length)) 23 (i64 i))) (fun (i : Nat) => [.box 24 [i64 c.kind, i64 c.threads, i64 c.chans, i64 c.cap, i64 c.nodes, i64 c.retire, i64 c.patience, i64 c.tags, i64 c.seqs, i64 c.gens, .t (.lst (c.start.map tI))], .row 0 69 1 ((pokeL l2 (A + 1) (st.take i)).map tU)]) (fun (i : Nat) => st.length - i) (0) ?_ ?_ ?_
  ·exact Nat.zero_le _
  ·rw [List.take_zero, pokeL_nil]
   exact Wk.cq 2
  ·intro i hi
   by_cases hi2 : i < st.length
   ·obtain ⟨w, hw⟩ : ∃ w, st[i]? = some w := ⟨_, List.getElem?_eq_getElem hi2⟩
    have hL : (pokeL l2 (A + 1) (st.take i)).length = N := by rw [pokeL_len (by rw [List.length_take]; omega), hz]
    have hp := pokeL_step (l := l2) (a := A + 1) (i := i) (by omega) hw
    have ej : Int.toNat ((A : Int) + 1 + (i : Int)) = A + 1 + i := by omega
    rw [← ej] at hp
    generalize pokeL l2 (A + 1) (st.take i) = L0 at *
    have hL2 : (L0.map tU).length = N := by rw [List.length_map, hL]
    repeat' (first | ((with_reducible refine kAL ?_); (first | (refine kL 816 rfl ?_; first | refine A_make rfl rfl 25 _ _ rfl ud25 inf69 rfl (zs := [(.v (.int .u64 0))]) rfl rfl rfl _ (by first | rfl | assumption | omega) (by first | rfl | assumption | omega) qB qB (by first | exact rep_map (f := tU) (x := w) | exact qN) (.push qL qN) ?_) | (refine kL 2211 rfl ?_; first | refine A_store_rp rfl rfl 69 _ _ rfl inf69 (by decide) rfl rfl (by first | exact map_get (by assumption) | assumption | exact map_get hw) rfl rfl rfl (Nat.le_of_ble_eq_true rfl) (by first | exact map_set (f := tU) (x := w) | exact qN) qN ?_) | refine uA ?_)) | refine uC ?_ | refine kcp rfl (fun hc => ?_) (fun hc => ?_) | refine kcn rfl (fun hc => ?_) (fun hc => ?_) | refine kcb rfl (fun hc => ?_) (fun hc => ?_) | refine kcc rfl (fun hc => ?_) (fun hc => ?_) | fail)
    all_goals first | (exfalso; omega) | skip
    refine ⟨i + 1, by omega, by omega, ?_⟩
    rw [hp]
    exact Wk.cq 2
   ·have e : i = st.length := by omega
    subst e
    rw [List.take_length]
    repeat' (first | ((with_reducible refine kAL ?_); (first | (refine kL 816 rfl ?_; first | refine A_make rfl rfl 25 _ _ rfl ud25 inf69 rfl (zs := [(.v (.int .u64 0))]) rfl rfl rfl _ (by first | rfl | assumption | omega) (by first | rfl | assumption | omega) qB qB (by first | exact qN) (.push qL qN) ?_) | refine uA ?_)) | refine uC ?_ | refine kcp rfl (fun hc => ?_) (fun hc => ?_) | refine kcn rfl (fun hc => ?_) (fun hc => ?_) | refine kcb rfl (fun hc => ?_) (fun hc => ?_) | refine kcc rfl (fun hc => ?_) (fun hc => ?_) | fail)
    all_goals first | (exfalso; omega) | ((first | exact Fin.q Try.results45 (.cons (.tmp rfl) .nil) [1] | refine Fin.q Try.results45 (.cons (.tmp rfl) .nil) [1] (hr := (.t ?_)) | refine Fin.mkv (rs := _) Try.results45 (.cons (.tmp rfl) .nil) [1] (by decide) rfl ?_ ?_ ?_ <;> repeat' (skip; first | exact .nil | refine .cons rfl ?_ ?_ | refine .cons ?_ ?_ | refine .row ?_ | refine .rset ?_ | refine .box ?_ | exact .gone | refine .aggL ?_ | refine .tupL ?_ | refine .old rfl ?_ | refine .new rfl rfl rfl ?_ | exact .nl | exact .optr rfl | exact .nptr rfl rfl rfl | refine .t ?_ | exact .any _ | rfl)))
 generalize setupL c = w at *
 have h0' := Cd.frz1 h0 0 rfl (by repeat' (first | exact FzL.nil | apply FzL.cons | exact FzR.nlt | exact FzR.all (by first | rfl | (simp <;> fail) | (simp; omega)) | exact FzR.sl (by first | exact Nat.le_refl _ | (simp <;> fail) | (simp; omega)) | apply FzR.aggL | exact FzR.same _)) rfl; exact Cd.drop h0' rfl
theorem rwords_n (c : DConf) (hs : c.start.length ≤ 1152921504606846976) (h : chkL c ≠ 0) : Cd Try.prog 45 [fCf c] .nl [] := by
 have c1 := rchkL_c c hs
 generalize chkL c = k at *
 refine Cd.enter' Try.func45 rfl Try.ntmps45 rfl ?_
 repeat' (first | ((with_reducible refine kAL ?_); (first | (refine kL 1322 rfl ?_; first | refine uK (c1) ?_) | (refine kL 816 rfl ?_; first | refine A_make rfl rfl 25 _ _ rfl ud25 inf69 rfl (zs := [(.v (.int .u64 0))]) rfl rfl rfl _ (by first | rfl | assumption | omega) (by first | rfl | assumption | omega) qB qB (by first | exact qN) (.push qL qN) ?_) | refine uA ?_)) | refine uC ?_ | refine kcp rfl (fun hc => ?_) (fun hc => ?_) | refine kcn rfl (fun hc => ?_) (fun hc => ?_) | refine kcb rfl (fun hc => ?_) (fun hc => ?_) | refine kcc rfl (fun hc => ?_) (fun hc => ?_) | fail)
 all_goals first | (exfalso; omega) | ((first | exact Fin.q Try.results45 (.cons (.tmp rfl) .nil) [] | refine Fin.q Try.results45 (.cons (.tmp rfl) .nil) [] (hr := (.t ?_)) | refine Fin.mkv (rs := _) Try.results45 (.cons (.tmp rfl) .nil) [] (by decide) rfl ?_ ?_ ?_ <;> repeat' (skip; first | exact .nil | refine .cons rfl ?_ ?_ | refine .cons ?_ ?_ | refine .row ?_ | refine .rset ?_ | refine .box ?_ | exact .gone | refine .aggL ?_ | refine .tupL ?_ | refine .old rfl ?_ | refine .new rfl rfl rfl ?_ | exact .nl | exact .optr rfl | exact .nptr rfl rfl rfl | refine .t ?_ | exact .any _ | rfl)))
end
end Go.Proofs.Ytnfbggpkiekpdaa
namespace Go.Proofs.Ytnfbggpkiekpdaa
set_option linter.unusedVariables false
set_option linter.unusedSimpArgs false
set_option linter.unnecessarySimpa false
end Go.Proofs.Ytnfbggpkiekpdaa
namespace Go.Proofs.Ytnfbggpkiekpdaa
open Go.RowKit
set_option linter.unusedVariables false
set_option linter.unusedSimpArgs false
set_option linter.unnecessarySimpa false
set_option maxRecDepth 100000
set_option maxHeartbeats 64000000
section
theorem val_frz {Kn : Nat → Nat → Prop} {ρ : Rho} {w : World} {Z Y : Nat → Prop} {els : List (List Tr)} {v : Value} (h : Val Kn ρ w Z Y (.ln els) v) (hz : ∀ b, Y b → Z b) : Val Kn ρ w Z Y (.t (.lst els)) v := by
 cases h with
 | ln hr hz' hn he => exact .t (Frz.shut hn hr (fun hne => hz _ (hz' hne)) he)
def frzV : AV → AV
 | .ln els => .t (.lst els)
 | x => x
theorem val_frzV {Kn : Nat → Nat → Prop} {ρ : Rho} {w : World} {Z Y : Nat → Prop} {x : AV} {v : Value} (h : Val Kn ρ w Z Y x v) (hz : ∀ b, Y b → Z b) : Val Kn ρ w Z Y (frzV x) v := by
 cases x <;> first | exact h | exact val_frz h hz
theorem val_frzA {Kn : Nat → Nat → Prop} {ρ : Rho} {w : World} {Z Y : Nat → Prop} {l : List AV} {v : Value} (h : Val Kn ρ w Z Y (.agg l) v) (hz : ∀ b, Y b → Z b) : Val Kn ρ w Z Y (.agg (l.map frzV)) v := by
 cases h with
 | agg h1 ho hu =>
  refine .agg (by rw [List.length_map]; exact h1) ho (fun j x u hj hu' => ?_)
  rw [List.getElem?_map] at hj
  cases hy : l[j]? with
  | none => rw [hy] at hj; cases hj
  | some y => rw [hy] at hj; cases hj; exact val_frzV (hu j y u hy hu') hz
end
end Go.Proofs.Ytnfbggpkiekpdaa
