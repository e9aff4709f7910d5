/- Joined: XTSetup, XTFitsR. -/
import Derived.Test.YtnfbggpkiekpdaaKR15h
import Derived.Test.YtnfbggpkiekpdaaKR15j
import Derived.Test.YtnfbggpkiekpdaaKR15k
import Derived.Test.YtnfbggpkiekpdaaKR15o
import Derived.Test.YtnfbggpkiekpdaaKR15p
import Derived.Test.YtnfbggpkiekpdaaKR15l
import Derived.Test.YtnfbggpkiekpdaaKR15d
namespace Go.Proofs.Ytnfbggpkiekpdaa
open Go.RowKit
set_option linter.unusedVariables false
set_option linter.unusedSimpArgs false
set_option linter.unnecessarySimpa false
set_option maxRecDepth 100000
set_option maxHeartbeats 64000000
section
attribute [local irreducible] AL AW RG Fin C Cd Cio thenQ blockQ retQ
set_option maxRecDepth 100000
def atL (c : DConf) : Nat := (3 + c.threads * 9).toNat
def setupL (c : DConf) : List Int := pokeL (pokeL (pokeL (List.replicate (totL c).toNat 0) 0 [65537]) (atL c) [1]) (atL c + 1) (startO c)
structure Su (c : DConf) (N A : Nat) : Prop where
 chk : chkC c = true
 tot : totL c = (N : Int)
 nat : (totL c).toNat = N
 at0 : atL c = A
 node : nodeL c 0 = (A : Int)
 lo : 3 ≤ A
 room : A + 1 + (startO c).length ≤ N
 hi : N ≤ 1048576
theorem su_of {c : DConf} (h : chkL c = 0) : ∃ N A, Su c N A := by
 unfold chkL at h
 cases hk : chkC c
 ·rw [hk] at h; simp at h
 ·rw [hk, if_pos rfl] at h
  obtain ⟨_, e, b1, b2⟩ := totL_b hk
  have hh : ¬ totL c > 1048576 := fun g => by rw [if_pos g] at h; omega
  have S := chkC_shaped hk
  have t0 := S.t0
  have y := nodesL_b hk
  have z := sizeC_b c
  have hl := (startO_is c).len
  have n0 := nodeL_in hk (i := 0) (by omega) (by omega)
  have hm : 1 + sizeC c ≤ nodesL c * (1 + sizeC c) := by
   have := Int.mul_le_mul_of_nonneg_right y.1 (show (0 : Int) ≤ 1 + sizeC c by omega)
   omega
  refine ⟨(totL c).toNat, atL c, hk, by omega, rfl, rfl, by unfold atL; omega, by unfold atL; omega, by unfold atL; omega, by omega⟩
theorem setupL_len {c : DConf} {N A : Nat} (h : Su c N A) : (setupL c).length = N := by
 have h1 := h.room
 have h2 := h.lo
 unfold setupL
 rw [h.nat, h.at0]
 have e1 : (pokeL (List.replicate N 0) 0 [65537]).length = N := by rw [pokeL_len (by simp; omega), List.length_replicate]
 have e2 : (pokeL (pokeL (List.replicate N 0) 0 [65537]) A [1]).length = N := by rw [pokeL_len (by simp; omega), e1]
 rw [pokeL_len (by omega), e2]
theorem setup_c (c : DConf) (hs : c.start.length ≤ 1152921504606846976) (N A : Nat) (h : Su c N A) : Cd Try.prog 44 [fCf c] (.tup [.ptr 0 0, i64 0]) [mB 0 N, mR 0 (setupL c)] := by
 have h1 := h.room
 have h2 := h.lo
 have h3 := h.hi
 have hc : chkL c = 0 := by unfold chkL; rw [h.chk, if_pos rfl, if_neg (by have := h.tot; omega)]
 have c1 := chkL_c c hs
 have c2 := totL_c c hs
 have c3 := nodeL_c c hs 0
 have c4 := start_o c hs
 have c5 := mnew_c N (by omega) (by omega)
 have c6 := fword_c 0 1
 rw [show wordF 0 1 = 65537 by decide] at c6
 have e1 : (pokeL (List.replicate N 0) 0 [65537]).length = N := by rw [pokeL_len (by simp; omega), List.length_replicate]
 have e2 : (pokeL (pokeL (List.replicate N 0) 0 [65537]) A [1]).length = N := by rw [pokeL_len (by simp; omega), e1]
 have p1 := mpoke_c 0 N (List.replicate N 0) [65537] List.length_replicate (by omega) h3 0 (by simp; omega)
 have p2 := mpoke_c 0 N (pokeL (List.replicate N 0) 0 [65537]) [1] e1 (by omega) h3 A (by simp; omega)
 have p3 := mpoke_c 0 N (pokeL (pokeL (List.replicate N 0) 0 [65537]) A [1]) (startO c) e2 (by omega) h3 (A + 1) (by omega)
 have e3 : setupL c = pokeL (pokeL (pokeL (List.replicate N 0) 0 [65537]) A [1]) (A + 1) (startO c) := by unfold setupL; rw [h.nat, h.at0]
 rw [hc] at c1
 rw [h.tot] at c2
 rw [h.node] at c3
 rw [e3]
 generalize pokeL (pokeL (pokeL (List.replicate N 0) 0 [65537]) A [1]) (A + 1) (startO c) = l3 at *
 generalize pokeL (pokeL (List.replicate N 0) 0 [65537]) A [1] = l2 at *
 generalize pokeL (List.replicate N 0) 0 [65537] = l1 at *
 generalize startO c = st at *
 generalize List.replicate N (0 : Int) = l0 at *
 refine Cd.enter' Try.func44 rfl Try.ntmps44 rfl ?_
 repeat' (first | ((with_reducible refine kAL ?_); (first | (refine kL 1290 rfl ?_; first | refine uK (c1) ?_) | (refine kL 1226 rfl ?_; first | refine uK (c2) ?_) | (refine kL 2442 rfl ?_; first | refine uK (c5) ?_) | (refine kL 2506 rfl ?_; first | refine uK (c6) ?_) | (refine kL 815 rfl ?_; first | refine A_lit rfl rfl 25 1 _ rfl ud25 inf69 (.cons rfl .nil) (els := [[_]]) rfl (by first | exact qN) rfl (Nat.ne_of_beq_eq_false rfl) (Nat.le_of_ble_eq_true rfl) (Nat.le_of_ble_eq_true rfl) (.push qL qN) ?_) | (refine kL 2474 rfl ?_; first | refine uI [1, 2] (p1) ?_ | refine uI [1, 2] (p2) ?_ | refine uI [1, 2] (p3) ?_) | (refine kL 1162 rfl ?_; first | refine uK (c3) ?_) | refine uA ?_)) | ((with_reducible refine kRG ?_); (first | (refine kR 1162 rfl ?_; first | (first | refine uQ (c3) 0 ?_ | refine uQ (c3) 1 ?_ | refine uQ (c3) 2 ?_ | refine uQ (c3) 3 ?_ | refine uQ (c3) 4 ?_ | refine uQ (c3) 5 ?_ | refine uQ (c3) 6 ?_ | refine uQ (c3) 7 ?_ | refine uQ (c3) 8 ?_ | refine uQ (c3) 9 ?_ | refine uQ (c3) 10 ?_ | refine uQ (c3) 11 ?_ | refine uQ (c3) 12 ?_ | refine uQ (c3) 13 ?_)) | (refine kR 2538 rfl ?_; first | (first | refine uQ (c4) 0 ?_ | refine uQ (c4) 1 ?_ | refine uQ (c4) 2 ?_ | refine uQ (c4) 3 ?_ | refine uQ (c4) 4 ?_ | refine uQ (c4) 5 ?_ | refine uQ (c4) 6 ?_ | refine uQ (c4) 7 ?_ | refine uQ (c4) 8 ?_ | refine uQ (c4) 9 ?_ | refine uQ (c4) 10 ?_ | refine uQ (c4) 11 ?_ | refine uQ (c4) 12 ?_ | refine uQ (c4) 13 ?_)) | (refine kR 2474 rfl ?_; first | refine uJ [1, 2] (p1) ?_ | refine uJ [1, 2] (p2) ?_ | refine uJ [1, 2] (p3) ?_) | refine uR ?_)) | refine uC ?_ | refine kcp rfl (fun hc => ?_) (fun hc => ?_) | refine kcn rfl (fun hc => ?_) (fun hc => ?_) | refine kcb rfl (fun hc => ?_) (fun hc => ?_) | refine kcc rfl (fun hc => ?_) (fun hc => ?_) | refine AW.drawU (id := 7) mixed 6 qR ?_ | fail)
 all_goals first | (exfalso; omega) | ((first | exact Fin.q Try.results44 (.cons (.tmp rfl) (.cons (.tmp rfl) .nil)) [1, 2] | refine Fin.q Try.results44 (.cons (.tmp rfl) (.cons (.tmp rfl) .nil)) [1, 2] (hr := (.tupL (.cons (.t ?_) (.cons (.t ?_) .nil)))) | refine Fin.mkv (rs := _) Try.results44 (.cons (.tmp rfl) (.cons (.tmp rfl) .nil)) [1, 2] (by decide) rfl ?_ ?_ ?_ <;> repeat' (skip; first | exact .nil | refine .cons rfl ?_ ?_ | refine .cons ?_ ?_ | refine .row ?_ | refine .rset ?_ | refine .box ?_ | exact .gone | refine .aggL ?_ | refine .tupL ?_ | refine .old rfl ?_ | refine .new rfl rfl rfl ?_ | exact .nl | exact .optr rfl | exact .nptr rfl rfl rfl | refine .t ?_ | exact .any _ | rfl)))
theorem setup_n (c : DConf) (hs : c.start.length ≤ 1152921504606846976) (h : chkL c ≠ 0) : Cd Try.prog 44 [fCf c] (.tup [pnil, i64 (chkL c)]) [] := by
 have c1 := chkL_c c hs
 generalize chkL c = k at *
 refine Cd.enter' Try.func44 rfl Try.ntmps44 rfl ?_
 repeat' (first | ((with_reducible refine kAL ?_); (first | (refine kL 1290 rfl ?_; first | refine uK (c1) ?_) | (refine kL 815 rfl ?_; first | refine A_lit rfl rfl 25 1 _ rfl ud25 inf69 (.cons rfl .nil) (els := [[_]]) rfl (by first | exact qN) rfl (Nat.ne_of_beq_eq_false rfl) (Nat.le_of_ble_eq_true rfl) (Nat.le_of_ble_eq_true rfl) (.push qL qN) ?_) | refine uA ?_)) | refine uR ?_ | refine uC ?_ | refine kcp rfl (fun hc => ?_) (fun hc => ?_) | refine kcn rfl (fun hc => ?_) (fun hc => ?_) | refine kcb rfl (fun hc => ?_) (fun hc => ?_) | refine kcc rfl (fun hc => ?_) (fun hc => ?_) | refine AW.drawU (id := 7) mixed 6 qR ?_ | fail)
 all_goals first | (exfalso; omega) | ((first | exact Fin.q Try.results44 (.cons (.tmp rfl) (.cons (.tmp rfl) .nil)) [] | refine Fin.q Try.results44 (.cons (.tmp rfl) (.cons (.tmp rfl) .nil)) [] (hr := (.tupL (.cons (.t ?_) (.cons (.t ?_) .nil)))) | refine Fin.mkv (rs := _) Try.results44 (.cons (.tmp rfl) (.cons (.tmp rfl) .nil)) [] (by decide) rfl ?_ ?_ ?_ <;> repeat' (skip; first | exact .nil | refine .cons rfl ?_ ?_ | refine .cons ?_ ?_ | refine .row ?_ | refine .rset ?_ | refine .box ?_ | exact .gone | refine .aggL ?_ | refine .tupL ?_ | refine .old rfl ?_ | refine .new rfl rfl rfl ?_ | exact .nl | exact .optr rfl | exact .nptr rfl rfl rfl | refine .t ?_ | exact .any _ | rfl)))
def poolL (c : DConf) (t : Int) : List DSlot := if chkL c = 0 ∧ 0 ≤ t ∧ t < c.threads then newL (Wi (1 + Wi (t * c.nodes))) (min (max c.nodes 0) 64).toNat else []
abbrev fPl (l : List DSlot) : AV := .agg [i64 0, i64 0, .t (.lst (l.map tSl)), .t (.lst []), i64 0]
theorem pnew_F (a n : Int) : Cd Try.prog 83 [i64 a, i64 n] (fPl (newL a (min (max n 0) 64).toNat)) [] := by
 have h0 := pnew_c a n
 have e := newL_len a (min (max n 0) 64).toNat
 generalize newL a (min (max n 0) 64).toNat = l at *
 rw [← e] at h0
 have h0' := Cd.frz1 h0 0 rfl (by repeat' (first | exact FzL.nil | apply FzL.cons | exact FzR.nlt | exact FzR.all (by first | rfl | (simp <;> fail) | (simp; omega)) | exact FzR.sl (by first | exact Nat.le_refl _ | (simp <;> fail) | (simp; omega)) | apply FzR.aggL | exact FzR.same _)) rfl; exact Cd.drop h0' rfl
theorem rnew_F (a n : Int) : Cd Try.prog 84 [i64 a, i64 n] (fPl (newL a (min (max n 0) 64).toNat)) [] := by
 have h0 := rnew_c a n
 have e := newL_len a (min (max n 0) 64).toNat
 generalize newL a (min (max n 0) 64).toNat = l at *
 rw [← e] at h0
 have h0' := Cd.frz1 h0 0 rfl (by repeat' (first | exact FzL.nil | apply FzL.cons | exact FzR.nlt | exact FzR.all (by first | rfl | (simp <;> fail) | (simp; omega)) | exact FzR.sl (by first | exact Nat.le_refl _ | (simp <;> fail) | (simp; omega)) | apply FzR.aggL | exact FzR.same _)) rfl; exact Cd.drop h0' rfl
theorem lpool_c (c : DConf) (hs : c.start.length ≤ 1152921504606846976) (t : Int) : Cd Try.prog 49 [aCf c, i64 t] (fPl (poolL c t)) [] := by
 have c1 := chkL_c c hs
 by_cases h : chkL c = 0 ∧ 0 ≤ t ∧ t < c.threads
 ·have c2 := pnew_F (Wi (1 + Wi (t * c.nodes))) c.nodes
  unfold poolL
  rw [if_pos h]
  obtain ⟨h1, h2, h3⟩ := h
  rw [h1] at c1
  generalize newL (Wi (1 + Wi (t * c.nodes))) (min (max c.nodes 0) 64).toNat = l at *
  refine Cd.enter' Try.func49 rfl Try.ntmps49 rfl ?_
  repeat' (first | ((with_reducible refine kAL ?_); (first | (refine kL 1290 rfl ?_; first | refine uK (c1) ?_) | (refine kL 2666 rfl ?_; first | refine uK (c2) ?_) | refine uA ?_ | refine uS 8 (fun hb => ?_) (fun hb => ?_) | refine uS 12 (fun hb => ?_) (fun hb => ?_))) | refine uC ?_ | refine kcp rfl (fun hc => ?_) (fun hc => ?_) | refine kcn rfl (fun hc => ?_) (fun hc => ?_) | refine kcb rfl (fun hc => ?_) (fun hc => ?_) | refine kcc rfl (fun hc => ?_) (fun hc => ?_) | fail)
  all_goals first | (exfalso; omega) | ((first | exact Fin.q Try.results49 (.cons (.agg rfl rfl ud59 rfl inf59 (us := [_, _, _, _, _]) rfl rfl) .nil) [] | refine Fin.q Try.results49 (.cons (.agg rfl rfl ud59 rfl inf59 (us := [_, _, _, _, _]) rfl rfl) .nil) [] (hr := (.t ?_)) | refine Fin.mkv (rs := _) Try.results49 (.cons (.agg rfl rfl ud59 rfl inf59 (us := [_, _, _, _, _]) rfl rfl) .nil) [] (by decide) rfl ?_ ?_ ?_ <;> repeat' (skip; first | exact .nil | refine .cons rfl ?_ ?_ | refine .cons ?_ ?_ | refine .row ?_ | refine .rset ?_ | refine .box ?_ | exact .gone | refine .aggL ?_ | refine .tupL ?_ | refine .old rfl ?_ | refine .new rfl rfl rfl ?_ | exact .nl | exact .optr rfl | exact .nptr rfl rfl rfl | refine .t ?_ | exact .any _ | rfl)))
 ·unfold poolL
  rw [if_neg h]
  generalize chkL c = k at *
  by_cases h1 : k = 0
  ·by_cases h2 : 0 ≤ t
   all_goals
    refine Cd.enter' Try.func49 rfl Try.ntmps49 rfl ?_
    repeat' (first | ((with_reducible refine kAL ?_); (first | (refine kL 1902 rfl ?_; first | (refine zkD 18 rfl ?_; refine uA ?_; (try refine uz 18 ?_))) | (refine kL 1290 rfl ?_; first | refine uK (c1) ?_) | refine uA ?_ | refine uS 8 (fun hb => ?_) (fun hb => ?_) | refine uS 12 (fun hb => ?_) (fun hb => ?_))) | refine uC ?_ | refine kcp rfl (fun hc => ?_) (fun hc => ?_) | refine kcn rfl (fun hc => ?_) (fun hc => ?_) | refine kcb rfl (fun hc => ?_) (fun hc => ?_) | refine kcc rfl (fun hc => ?_) (fun hc => ?_) | fail)
    all_goals first | (exfalso; omega) | ((first | exact Fin.q Try.results49 (.cons (.agg rfl rfl ud59 rfl inf59 (us := [_, _, _, _, _]) rfl rfl) .nil) [] | refine Fin.q Try.results49 (.cons (.agg rfl rfl ud59 rfl inf59 (us := [_, _, _, _, _]) rfl rfl) .nil) [] (hr := (.t ?_)) | refine Fin.mkv (rs := _) Try.results49 (.cons (.agg rfl rfl ud59 rfl inf59 (us := [_, _, _, _, _]) rfl rfl) .nil) [] (by decide) rfl ?_ ?_ ?_ <;> repeat' (skip; first | exact .nil | refine .cons rfl ?_ ?_ | refine .cons ?_ ?_ | refine .row ?_ | refine .rset ?_ | refine .box ?_ | exact .gone | refine .aggL ?_ | refine .tupL ?_ | refine .old rfl ?_ | refine .new rfl rfl rfl ?_ | exact .nl | exact .optr rfl | exact .nptr rfl rfl rfl | refine .t ?_ | exact .any _ | rfl)))
  ·refine Cd.enter' Try.func49 rfl Try.ntmps49 rfl ?_
   repeat' (first | ((with_reducible refine kAL ?_); (first | (refine kL 1902 rfl ?_; first | (refine zkD 18 rfl ?_; refine uA ?_; (try refine uz 18 ?_))) | (refine kL 1290 rfl ?_; first | refine uK (c1) ?_) | refine uA ?_ | refine uS 8 (fun hb => ?_) (fun hb => ?_) | refine uS 12 (fun hb => ?_) (fun hb => ?_))) | refine uC ?_ | refine kcp rfl (fun hc => ?_) (fun hc => ?_) | refine kcn rfl (fun hc => ?_) (fun hc => ?_) | refine kcb rfl (fun hc => ?_) (fun hc => ?_) | refine kcc rfl (fun hc => ?_) (fun hc => ?_) | fail)
   all_goals first | (exfalso; omega) | ((first | exact Fin.q Try.results49 (.cons (.agg rfl rfl ud59 rfl inf59 (us := [_, _, _, _, _]) rfl rfl) .nil) [] | refine Fin.q Try.results49 (.cons (.agg rfl rfl ud59 rfl inf59 (us := [_, _, _, _, _]) rfl rfl) .nil) [] (hr := (.t ?_)) | refine Fin.mkv (rs := _) Try.results49 (.cons (.agg rfl rfl ud59 rfl inf59 (us := [_, _, _, _, _]) rfl rfl) .nil) [] (by decide) rfl ?_ ?_ ?_ <;> repeat' (skip; first | exact .nil | refine .cons rfl ?_ ?_ | refine .cons ?_ ?_ | refine .row ?_ | refine .rset ?_ | refine .box ?_ | exact .gone | refine .aggL ?_ | refine .tupL ?_ | refine .old rfl ?_ | refine .new rfl rfl rfl ?_ | exact .nl | exact .optr rfl | exact .nptr rfl rfl rfl | refine .t ?_ | exact .any _ | rfl)))
theorem rpool_c (c : DConf) (hs : c.start.length ≤ 1152921504606846976) (t : Int) : Cd Try.prog 50 [aCf c, i64 t] (fPl (poolL c t)) [] := by
 have c1 := rchkL_c c hs
 by_cases h : chkL c = 0 ∧ 0 ≤ t ∧ t < c.threads
 ·have c2 := rnew_F (Wi (1 + Wi (t * c.nodes))) c.nodes
  unfold poolL
  rw [if_pos h]
  obtain ⟨h1, h2, h3⟩ := h
  rw [h1] at c1
  generalize newL (Wi (1 + Wi (t * c.nodes))) (min (max c.nodes 0) 64).toNat = l at *
  refine Cd.enter' Try.func50 rfl Try.ntmps50 rfl ?_
  repeat' (first | ((with_reducible refine kAL ?_); (first | (refine kL 1322 rfl ?_; first | refine uK (c1) ?_) | (refine kL 2698 rfl ?_; first | refine uK (c2) ?_) | refine uA ?_ | refine uS 8 (fun hb => ?_) (fun hb => ?_) | refine uS 12 (fun hb => ?_) (fun hb => ?_))) | refine uC ?_ | refine kcp rfl (fun hc => ?_) (fun hc => ?_) | refine kcn rfl (fun hc => ?_) (fun hc => ?_) | refine kcb rfl (fun hc => ?_) (fun hc => ?_) | refine kcc rfl (fun hc => ?_) (fun hc => ?_) | fail)
  all_goals first | (exfalso; omega) | ((first | exact Fin.q Try.results50 (.cons (.agg rfl rfl ud59 rfl inf59 (us := [_, _, _, _, _]) rfl rfl) .nil) [] | refine Fin.q Try.results50 (.cons (.agg rfl rfl ud59 rfl inf59 (us := [_, _, _, _, _]) rfl rfl) .nil) [] (hr := (.t ?_)) | refine Fin.mkv (rs := _) Try.results50 (.cons (.agg rfl rfl ud59 rfl inf59 (us := [_, _, _, _, _]) rfl rfl) .nil) [] (by decide) rfl ?_ ?_ ?_ <;> repeat' (skip; first | exact .nil | refine .cons rfl ?_ ?_ | refine .cons ?_ ?_ | refine .row ?_ | refine .rset ?_ | refine .box ?_ | exact .gone | refine .aggL ?_ | refine .tupL ?_ | refine .old rfl ?_ | refine .new rfl rfl rfl ?_ | exact .nl | exact .optr rfl | exact .nptr rfl rfl rfl | refine .t ?_ | exact .any _ | rfl)))
 ·unfold poolL
  rw [if_neg h]
  generalize chkL c = k at *
  by_cases h1 : k = 0
  ·by_cases h2 : 0 ≤ t
   all_goals
    refine Cd.enter' Try.func50 rfl Try.ntmps50 rfl ?_
    repeat' (first | ((with_reducible refine kAL ?_); (first | (refine kL 1902 rfl ?_; first | (refine zkD 18 rfl ?_; refine uA ?_; (try refine uz 18 ?_))) | (refine kL 1322 rfl ?_; first | refine uK (c1) ?_) | refine uA ?_ | refine uS 8 (fun hb => ?_) (fun hb => ?_) | refine uS 12 (fun hb => ?_) (fun hb => ?_))) | refine uC ?_ | refine kcp rfl (fun hc => ?_) (fun hc => ?_) | refine kcn rfl (fun hc => ?_) (fun hc => ?_) | refine kcb rfl (fun hc => ?_) (fun hc => ?_) | refine kcc rfl (fun hc => ?_) (fun hc => ?_) | fail)
    all_goals first | (exfalso; omega) | ((first | exact Fin.q Try.results50 (.cons (.agg rfl rfl ud59 rfl inf59 (us := [_, _, _, _, _]) rfl rfl) .nil) [] | refine Fin.q Try.results50 (.cons (.agg rfl rfl ud59 rfl inf59 (us := [_, _, _, _, _]) rfl rfl) .nil) [] (hr := (.t ?_)) | refine Fin.mkv (rs := _) Try.results50 (.cons (.agg rfl rfl ud59 rfl inf59 (us := [_, _, _, _, _]) rfl rfl) .nil) [] (by decide) rfl ?_ ?_ ?_ <;> repeat' (skip; first | exact .nil | refine .cons rfl ?_ ?_ | refine .cons ?_ ?_ | refine .row ?_ | refine .rset ?_ | refine .box ?_ | exact .gone | refine .aggL ?_ | refine .tupL ?_ | refine .old rfl ?_ | refine .new rfl rfl rfl ?_ | exact .nl | exact .optr rfl | exact .nptr rfl rfl rfl | refine .t ?_ | exact .any _ | rfl)))
  ·refine Cd.enter' Try.func50 rfl Try.ntmps50 rfl ?_
   repeat' (first | ((with_reducible refine kAL ?_); (first | (refine kL 1902 rfl ?_; first | (refine zkD 18 rfl ?_; refine uA ?_; (try refine uz 18 ?_))) | (refine kL 1322 rfl ?_; first | refine uK (c1) ?_) | refine uA ?_ | refine uS 8 (fun hb => ?_) (fun hb => ?_) | refine uS 12 (fun hb => ?_) (fun hb => ?_))) | refine uC ?_ | refine kcp rfl (fun hc => ?_) (fun hc => ?_) | refine kcn rfl (fun hc => ?_) (fun hc => ?_) | refine kcb rfl (fun hc => ?_) (fun hc => ?_) | refine kcc rfl (fun hc => ?_) (fun hc => ?_) | fail)
   all_goals first | (exfalso; omega) | ((first | exact Fin.q Try.results50 (.cons (.agg rfl rfl ud59 rfl inf59 (us := [_, _, _, _, _]) rfl rfl) .nil) [] | refine Fin.q Try.results50 (.cons (.agg rfl rfl ud59 rfl inf59 (us := [_, _, _, _, _]) rfl rfl) .nil) [] (hr := (.t ?_)) | refine Fin.mkv (rs := _) Try.results50 (.cons (.agg rfl rfl ud59 rfl inf59 (us := [_, _, _, _, _]) rfl rfl) .nil) [] (by decide) rfl ?_ ?_ ?_ <;> repeat' (skip; first | exact .nil | refine .cons rfl ?_ ?_ | refine .cons ?_ ?_ | refine .row ?_ | refine .rset ?_ | refine .box ?_ | exact .gone | refine .aggL ?_ | refine .tupL ?_ | refine .old rfl ?_ | refine .new rfl rfl rfl ?_ | exact .nl | exact .optr rfl | exact .nptr rfl rfl rfl | refine .t ?_ | exact .any _ | rfl)))
end
section
attribute [local irreducible] AL AW RG Fin C Cd Cio thenQ blockQ retQ
set_option maxRecDepth 100000
theorem rvalues_c (l : List Int) (m : Int) (hl : l.length ≤ 1152921504606846976) : Cd Try.prog 132 [.ln (l.map tI), i64 m] (bo (valsOK l m)) [] := by
 have h1 : (l.map tI).length = l.length := List.length_map _
 refine Cd.enter' Try.func132 rfl Try.ntmps132 rfl ?_
 repeat' (first | refine uA ?_ | refine uC ?_ | fail)
 refine AW.loopP (fun (i : Nat) => i ≤ l.length ∧ ∀ j, j < i → ∀ a, l[j]? = some a → inI a 0 4294967295 = true) (fun (i : Nat) => (pu (pu (pu (pu (pu (fun _ => .any) 0 (.ln (l.map tI))) 1 (i64 m)) 7 (.ln (l.map tI))) 8 (i64 (l.map tI).length)) 9 (i64 i))) (fun (i : Nat) => []) (fun (i : Nat) => l.length - i) (0) ?_ ?_ ?_
 ·exact ⟨Nat.zero_le _, fun j hj => by omega⟩
 ·exact Wk.cq 0
 ·rintro i ⟨h2, h3⟩
  by_cases hi : i < l.length
  ·obtain ⟨a, ha⟩ : ∃ a, l[i]? = some a := ⟨_, List.getElem?_eq_getElem hi⟩
   have cA := inR_c a 0 4294967295
   cases hv : inI a 0 4294967295
   ·rw [hv] at cA
    have : valsOK l m = false := by
     unfold valsOK
     rw [show (l.all fun x => inI x 0 4294967295) = false from List.all_eq_false.2 ⟨a, List.mem_of_getElem? ha, by rw [hv]; decide⟩, Bool.and_false]
    rw [this]
    repeat' (first | ((with_reducible refine kAL ?_); (first | (refine kL 2410 rfl ?_; first | refine uK (cA) ?_) | refine uA ?_)) | refine uC ?_ | fail)
    all_goals first | (exfalso; omega) | (exact Fin.q Try.results132 (.cons (.tmp rfl) .nil) [])
   ·rw [hv] at cA
    repeat' (first | ((with_reducible refine kAL ?_); (first | (refine kL 2410 rfl ?_; first | refine uK (cA) ?_) | refine uA ?_)) | refine uC ?_ | fail)
    all_goals first | (exfalso; omega) | skip
    refine ⟨i + 1, ⟨by omega, fun j hj b hb => ?_⟩, by omega, ?_⟩
    ·by_cases e : j = i
     ·subst e; rw [ha] at hb; cases hb; exact hv
     ·exact h3 j (by omega) b hb
    ·exact Wk.cq 0
  ·have : valsOK l m = decide ((l.length : Int) ≤ m) := by
    unfold valsOK
    rw [show (l.all fun x => inI x 0 4294967295) = true from List.all_eq_true.2 fun a ha => by
     obtain ⟨j, hj⟩ := List.getElem?_of_mem ha
     exact h3 j (by have := get_lt hj; omega) a hj, Bool.and_true]
   rw [this]
   by_cases e : (l.length : Int) ≤ m
   ·rw [decide_eq_true e]
    repeat' (first | refine uA ?_ | refine uC ?_ | fail)
    all_goals first | (exfalso; omega) | (exact Fin.q Try.results132 (.cons (.tmp rfl) .nil) [])
   ·rw [decide_eq_false e]
    repeat' (first | refine uA ?_ | refine uC ?_ | fail)
    all_goals first | (exfalso; omega) | (exact Fin.q Try.results132 (.cons (.tmp rfl) .nil) [])
theorem rresults_c (l : List Rst) (m : Int) (hl : l.length ≤ 1152921504606846976) : Cd Try.prog 131 [.ln (l.map tR), i64 m] (bo (resOK l m)) [] := by
 have h1 : (l.map tR).length = l.length := List.length_map _
 refine Cd.enter' Try.func131 rfl Try.ntmps131 rfl ?_
 repeat' (first | refine uA ?_ | refine uC ?_ | fail)
 refine AW.loopP (fun (i : Nat) => i ≤ l.length ∧ ∀ j, j < i → ∀ a, l[j]? = some a → goodR a = true) (fun (i : Nat) => (pu (pu (pu (pu (pu (fun _ => .any) 0 (.ln (l.map tR))) 1 (i64 m)) 7 (.ln (l.map tR))) 8 (i64 (l.map tR).length)) 9 (i64 i))) (fun (i : Nat) => []) (fun (i : Nat) => l.length - i) (0) ?_ ?_ ?_
 ·exact ⟨Nat.zero_le _, fun j hj => by omega⟩
 ·exact Wk.cq 0
 ·rintro i ⟨h2, h3⟩
  by_cases hi : i < l.length
  ·obtain ⟨a, ha⟩ : ∃ a, l[i]? = some a := ⟨_, List.getElem?_eq_getElem hi⟩
   have cA := rgood_c a
   cases hv : goodR a
   ·rw [hv] at cA
    have : resOK l m = false := by
     unfold resOK
     rw [show l.all goodR = false from List.all_eq_false.2 ⟨a, List.mem_of_getElem? ha, by rw [hv]; decide⟩, Bool.and_false]
    rw [this]
    repeat' (first | ((with_reducible refine kAL ?_); (first | (refine kL 4298 rfl ?_; first | refine uK (cA) ?_) | refine uA ?_)) | refine uC ?_ | fail)
    all_goals first | (exfalso; omega) | (exact Fin.q Try.results131 (.cons (.tmp rfl) .nil) [])
   ·rw [hv] at cA
    repeat' (first | ((with_reducible refine kAL ?_); (first | (refine kL 4298 rfl ?_; first | refine uK (cA) ?_) | refine uA ?_)) | refine uC ?_ | fail)
    all_goals first | (exfalso; omega) | skip
    refine ⟨i + 1, ⟨by omega, fun j hj b hb => ?_⟩, by omega, ?_⟩
    ·by_cases e : j = i
     ·subst e; rw [ha] at hb; cases hb; exact hv
     ·exact h3 j (by omega) b hb
    ·exact Wk.cq 0
  ·have : resOK l m = decide ((l.length : Int) = m) := by
    unfold resOK
    rw [show l.all goodR = true from List.all_eq_true.2 fun a ha => by
     obtain ⟨j, hj⟩ := List.getElem?_of_mem ha
     exact h3 j (by have := get_lt hj; omega) a hj, Bool.and_true]
   rw [this]
   by_cases e : (l.length : Int) = m
   ·rw [decide_eq_true e]
    repeat' (first | refine uA ?_ | refine uC ?_ | fail)
    all_goals first | (exfalso; omega) | (exact Fin.q Try.results131 (.cons (.tmp rfl) .nil) [])
   ·rw [decide_eq_false e]
    repeat' (first | refine uA ?_ | refine uC ?_ | fail)
    all_goals first | (exfalso; omega) | (exact Fin.q Try.results131 (.cons (.tmp rfl) .nil) [])
theorem all_yes {α : Type} {p : α → Bool} {l : List α} {n : Nat} (hn : ¬ n < l.length) (h : ∀ j, j < n → ∀ a, l[j]? = some a → p a = true) : l.all p = true := List.all_eq_true.2 fun a ha => by
 obtain ⟨j, hj⟩ := List.getElem?_of_mem ha
 exact h j (by have := get_lt hj; omega) a hj
theorem all_no {α : Type} {p : α → Bool} {l : List α} {n : Nat} {a : α} (ha : l[n]? = some a) (h : p a = false) : l.all p = false := List.all_eq_false.2 ⟨a, List.mem_of_getElem? ha, by rw [h]; decide⟩
theorem all_next {α : Type} {p : α → Bool} {l : List α} {n : Nat} {a : α} (ha : l[n]? = some a) (h : p a = true) (h3 : ∀ j, j < n → ∀ a, l[j]? = some a → p a = true) : ∀ j, j < n + 1 → ∀ a, l[j]? = some a → p a = true := fun j hj b hb => by
 by_cases e : j = n
 ·subst e; rw [ha] at hb; cases hb; exact h
 ·exact h3 j (by omega) b hb
theorem rFits_c (q : DReq) (hl : q.cases.length ≤ 1152921504606846976) : Cd Try.prog 133 [aRq q] (bo (fitQ q)) [] := by
 have h1 : (q.cases.map tCs).length = q.cases.length := List.length_map _
 obtain ⟨k, a, v, df, l⟩ := q
 unfold fitQ
 dsimp only at *
 by_cases k1 : (1 ≤ k ∧ k ≤ 9) ∧ (0 ≤ a ∧ a ≤ 65535) ∧ (0 ≤ v ∧ v ≤ 4294967295) ∧ l.length ≤ 3
 ·obtain ⟨k1, k2, k3, k4⟩ := k1
  rw [show inI k 1 9 = true from decide_eq_true k1, show inI a 0 65535 = true from decide_eq_true k2, show inI v 0 4294967295 = true from decide_eq_true k3, decide_eq_true k4]
  simp only [Bool.true_and]
  refine Cd.enter' Try.func133 rfl Try.ntmps133 rfl ?_
  repeat' (first | refine uA ?_ | refine uC ?_ | fail)
  all_goals first | (exfalso; omega) | skip
  refine AW.loopP (fun (i : Nat) => i ≤ l.length ∧ ∀ j, j < i → ∀ a, l[j]? = some a → caseOK a = true) (fun (i : Nat) => (pu (pu (pu (fun _ => .any) 40 (.ln (l.map tCs))) 41 (i64 (l.map tCs).length)) 42 (i64 i))) (fun (i : Nat) => []) (fun (i : Nat) => l.length - i) (0) ?_ ?_ ?_
  ·exact ⟨Nat.zero_le _, fun j hj => by omega⟩
  ·exact Wk.cq 0
  ·rintro i ⟨h2, h3⟩
   by_cases hi : i < l.length
   ·obtain ⟨a, ha⟩ : ∃ a, l[i]? = some a := ⟨_, List.getElem?_eq_getElem hi⟩
    cases hv : caseOK a
    ·rw [all_no ha hv]
     have hv' : ¬ ((a.dir = 1 ∨ a.dir = 2) ∧ (0 ≤ a.handle ∧ a.handle ≤ 65535) ∧ 0 ≤ a.value ∧ a.value ≤ 4294967295) := fun h => by rw [caseOK_iff.2 h] at hv; cases hv
     repeat' (first | ((with_reducible refine kAL ?_); (first | refine uA ?_ | refine uS 49 (fun hb => ?_) (fun hb => ?_) | refine uS 54 (fun hb => ?_) (fun hb => ?_) | refine uS 59 (fun hb => ?_) (fun hb => ?_) | refine uS 64 (fun hb => ?_) (fun hb => ?_) | refine uS 69 (fun hb => ?_) (fun hb => ?_))) | refine uC ?_ | fail)
     all_goals first | (exfalso; omega) | (exact Fin.q Try.results133 (.cons (.tmp rfl) .nil) [])
    ·have hv' := caseOK_iff.1 hv
     repeat' (first | refine uA ?_ | refine uC ?_ | fail)
     all_goals first | (exfalso; omega) | skip
     refine ⟨i + 1, ⟨by omega, all_next ha hv h3⟩, by omega, ?_⟩
     exact Wk.cq 0
   ·rw [all_yes hi h3]
    repeat' (first | refine uA ?_ | refine uC ?_ | fail)
    all_goals first | (exfalso; omega) | (exact Fin.q Try.results133 (.cons (.tmp rfl) .nil) [])
 ·have : (inI k 1 9 && inI a 0 65535 && inI v 0 4294967295 && decide (l.length ≤ 3) && l.all caseOK) = false := by
   cases h : (inI k 1 9 && inI a 0 65535 && inI v 0 4294967295 && decide (l.length ≤ 3) && l.all caseOK)
   ·rfl
   ·simp only [Bool.and_eq_true, inI_iff, decide_eq_true_eq] at h
    exact absurd ⟨h.1.1.1.1, h.1.1.1.2, h.1.1.2, h.1.2⟩ k1
  rw [this]
  refine Cd.enter' Try.func133 rfl Try.ntmps133 rfl ?_
  repeat' (first | ((with_reducible refine kAL ?_); (first | refine uA ?_ | refine uS 8 (fun hb => ?_) (fun hb => ?_) | refine uS 13 (fun hb => ?_) (fun hb => ?_) | refine uS 18 (fun hb => ?_) (fun hb => ?_) | refine uS 23 (fun hb => ?_) (fun hb => ?_) | refine uS 28 (fun hb => ?_) (fun hb => ?_) | refine uS 33 (fun hb => ?_) (fun hb => ?_))) | refine uC ?_ | fail)
  all_goals first | (exfalso; omega) | (exact Fin.q Try.results133 (.cons (.tmp rfl) .nil) [])
abbrev cfB (c : DConf) : Ob := .box 24 [i64 c.kind, i64 c.threads, i64 c.chans, i64 c.cap, i64 c.nodes, i64 c.retire, i64 c.patience, i64 c.tags, i64 c.seqs, i64 c.gens, .ln (c.start.map tI)]
abbrev hlB (h : DHall) : Ob := .box 113 [i64 h.ticket, .ln (h.chans.map tCh), .ln (h.waits.map tWt), .ln (h.done.map tR)]
theorem rfitsH_c (c : DConf) (h : DHall) (hs : c.start.length ≤ 1152921504606846976) (hh : okH h) : Cd Try.prog 117 [aCf c, aHl h] (bo (fitsH c h)) [] := by
 have c1 := rchk_c c hs
 have c2 := inR_c h.ticket 0 4294967295
 have c3 := rresults_c h.done c.threads hh.d
 have hc0 := hh.c
 have hw0 := hh.w
 have h1 : (h.chans.map tCh).length = h.chans.length := List.length_map _
 have h2 : (h.waits.map tWt).length = h.waits.length := List.length_map _
 unfold fitsH
 generalize inI h.ticket 0 4294967295 = b2 at *
 generalize resOK h.done c.threads = b3 at *
 cases hk : chkC c
 ·rw [hk] at c1
  simp only [Bool.false_and]
  refine Cd.enter' Try.func117 rfl Try.ntmps117 rfl ?_
  repeat' (first | ((with_reducible refine kAL ?_); (first | (refine kL 1386 rfl ?_; first | refine uK (c1) ?_) | refine uA ?_)) | refine uC ?_ | fail)
  all_goals first | (exfalso; omega) | (exact Fin.q Try.results117 (.cons (.tmp rfl) .nil) [])
 ·rw [hk] at c1
  cases hb : (decide (c.kind = 3) && b2 && decide ((h.chans.length : Int) = c.chans) && decide ((h.waits.length : Int) = c.threads) && b3)
  ·simp only [Bool.true_and]
   rw [hb, Bool.false_and, Bool.false_and]
   refine Cd.enter' Try.func117 rfl Try.ntmps117 rfl ?_
   have cs : ¬ c.kind = 3 ∨ (c.kind = 3 ∧ b2 = false) ∨ (c.kind = 3 ∧ b2 = true ∧ ¬ (h.chans.length : Int) = c.chans) ∨ (c.kind = 3 ∧ b2 = true ∧ (h.chans.length : Int) = c.chans ∧ ¬ (h.waits.length : Int) = c.threads) ∨ (c.kind = 3 ∧ b2 = true ∧ (h.chans.length : Int) = c.chans ∧ (h.waits.length : Int) = c.threads ∧ b3 = false) := by
    by_cases e1 : c.kind = 3 <;> by_cases e2 : (h.chans.length : Int) = c.chans <;> by_cases e3 : (h.waits.length : Int) = c.threads <;> cases b2 <;> cases b3 <;> simp [e1, e2, e3] at hb ⊢
   clear hb
   rcases cs with e1 | ⟨e1, rfl⟩ | ⟨e1, rfl, e2⟩ | ⟨e1, rfl, e2, e3⟩ | ⟨e1, rfl, e2, e3, rfl⟩
   all_goals
    repeat' (first | ((with_reducible refine kAL ?_); (first | (refine kL 1386 rfl ?_; first | refine uK (c1) ?_) | (refine kL 2410 rfl ?_; first | refine uK (c2) ?_) | (refine kL 4202 rfl ?_; first | refine uK (c3) ?_) | refine uA ?_)) | refine uC ?_ | fail)
    all_goals first | (exfalso; omega) | (exact Fin.q Try.results117 (.cons (.tmp rfl) .nil) [])
  ·simp only [Bool.true_and]
   rw [hb, Bool.true_and]
   simp only [Bool.and_eq_true, decide_eq_true_eq] at hb
   obtain ⟨⟨⟨⟨e1, rfl⟩, e2⟩, e3⟩, rfl⟩ := hb
   refine Cd.enter' Try.func117 rfl Try.ntmps117 rfl ?_
   repeat' (first | ((with_reducible refine kAL ?_); (first | (refine kL 1386 rfl ?_; first | refine uK (c1) ?_) | (refine kL 2410 rfl ?_; first | refine uK (c2) ?_) | (refine kL 4202 rfl ?_; first | refine uK (c3) ?_) | refine uA ?_)) | refine uC ?_ | fail)
   all_goals first | (exfalso; omega) | skip
   refine AW.loopP (fun (i : Nat) => i ≤ h.chans.length ∧ ∀ j, j < i → ∀ a, h.chans[j]? = some a → chanOK c.cap a = true) (fun (i : Nat) => (pu (pu (pu (pu (pu (fun _ => .any) 2 (.ptr 0 0)) 3 (.ptr 1 0)) 48 (.ln (h.chans.map tCh))) 49 (i64 (h.chans.map tCh).length)) 50 (i64 i))) (fun (i : Nat) => [cfB c, hlB h]) (fun (i : Nat) => h.chans.length - i) (0) ?_ ?_ ?_
   ·exact ⟨Nat.zero_le _, fun j hj => by omega⟩
   ·exact Wk.cq 2
   ·rintro i ⟨g2, g3⟩
    by_cases hi : i < h.chans.length
    ·obtain ⟨a, ha⟩ : ∃ a, h.chans[i]? = some a := ⟨_, List.getElem?_eq_getElem hi⟩
     have d1 := inR_c a.gen 0 4095
     have d2 := inR_c a.cap 0 c.cap
     have d3 := rvalues_c a.buf a.cap (hh.b a (List.mem_of_getElem? ha))
     cases hv : chanOK c.cap a
     ·rw [all_no ha hv, Bool.false_and]
      have hv0 : inI a.cap 0 c.cap = true → 0 ≤ a.cap := fun h => (inI_iff.1 h).1
      unfold chanOK at hv
      generalize inI a.gen 0 4095 = b1 at *
      generalize inI a.cap 0 c.cap = b2 at *
      generalize valsOK a.buf a.cap = b3 at *
      obtain ⟨g, k, u, cl, buf⟩ := a
      dsimp only at *
      cases b1
      ·repeat' (first | ((with_reducible refine kAL ?_); (first | (refine kL 2410 rfl ?_; first | refine uK (d1) ?_) | refine uA ?_)) | refine uC ?_ | fail)
       all_goals first | (exfalso; omega) | (exact Fin.q Try.results117 (.cons (.tmp rfl) .nil) [])
      ·cases b2
       ·repeat' (first | ((with_reducible refine kAL ?_); (first | (refine kL 2410 rfl ?_; first | refine uK (d1) ?_ | refine uK (d2) ?_) | refine uA ?_)) | refine uC ?_ | fail)
        all_goals first | (exfalso; omega) | (exact Fin.q Try.results117 (.cons (.tmp rfl) .nil) [])
       ·have hv0 := hv0 rfl
        cases b3
        ·repeat' (first | ((with_reducible refine kAL ?_); (first | (refine kL 2410 rfl ?_; first | refine uK (d1) ?_ | refine uK (d2) ?_) | (refine kL 4234 rfl ?_; first | refine uK (d3) ?_) | refine uA ?_)) | refine uC ?_ | fail)
         all_goals first | (exfalso; omega) | (exact Fin.q Try.results117 (.cons (.tmp rfl) .nil) [])
        ·cases u
         ·cases cl
          ·have hk0 : k ≠ 0 := fun e => by subst e; simp at hv
           repeat' (first | ((with_reducible refine kAL ?_); (first | (refine kL 2410 rfl ?_; first | refine uK (d1) ?_ | refine uK (d2) ?_) | (refine kL 4234 rfl ?_; first | refine uK (d3) ?_) | refine uA ?_)) | refine uC ?_ | fail)
           all_goals first | (exfalso; omega) | (exact Fin.q Try.results117 (.cons (.tmp rfl) .nil) [])
          ·repeat' (first | ((with_reducible refine kAL ?_); (first | (refine kL 2410 rfl ?_; first | refine uK (d1) ?_ | refine uK (d2) ?_) | (refine kL 4234 rfl ?_; first | refine uK (d3) ?_) | refine uA ?_)) | refine uC ?_ | fail)
           all_goals first | (exfalso; omega) | (exact Fin.q Try.results117 (.cons (.tmp rfl) .nil) [])
         ·simp at hv
     ·have hv' := hv
      unfold chanOK at hv'
      simp only [Bool.and_eq_true] at hv'
      obtain ⟨⟨⟨v1, v2⟩, v3⟩, v4⟩ := hv'
      rw [v1] at d1
      rw [v2] at d2
      rw [v3] at d3
      have hnx := all_next ha hv g3
      obtain ⟨g, k, u, cl, buf⟩ := a
      dsimp only at *
      cases u
      ·cases cl
       ·have hk0 : k = 0 := by simpa using v4
        repeat' (first | ((with_reducible refine kAL ?_); (first | (refine kL 2410 rfl ?_; first | refine uK (d1) ?_ | refine uK (d2) ?_) | (refine kL 4234 rfl ?_; first | refine uK (d3) ?_) | refine uA ?_)) | refine uC ?_ | fail)
        all_goals first | (exfalso; omega) | skip
        refine ⟨i + 1, ⟨by omega, hnx⟩, by omega, ?_⟩
        exact Wk.cq 2
       ·simp at v4
      ·repeat' (first | ((with_reducible refine kAL ?_); (first | (refine kL 2410 rfl ?_; first | refine uK (d1) ?_ | refine uK (d2) ?_) | (refine kL 4234 rfl ?_; first | refine uK (d3) ?_) | refine uA ?_)) | refine uC ?_ | fail)
       all_goals first | (exfalso; omega) | skip
       refine ⟨i + 1, ⟨by omega, hnx⟩, by omega, ?_⟩
       exact Wk.cq 2
    ·rw [all_yes hi g3, Bool.true_and]
     repeat' (first | refine uA ?_ | refine uC ?_ | fail)
     all_goals first | (exfalso; omega) | skip
     refine AW.loopP (fun (i : Nat) => i ≤ h.waits.length ∧ ∀ j, j < i → ∀ a, h.waits[j]? = some a → waitOK a = true) (fun (i : Nat) => (pu (pu (pu (fun _ => .any) 88 (.ln (h.waits.map tWt))) 89 (i64 (h.waits.map tWt).length)) 90 (i64 i))) (fun (i : Nat) => []) (fun (i : Nat) => h.waits.length - i) (0) ?_ ?_ ?_
     ·exact ⟨Nat.zero_le _, fun j hj => by omega⟩
     ·exact Wk.cq 0
     ·rintro i ⟨g2, g3⟩
      by_cases hi : i < h.waits.length
      ·obtain ⟨a, ha⟩ : ∃ a, h.waits[i]? = some a := ⟨_, List.getElem?_eq_getElem hi⟩
       have d1 := inR_c a.ticket 0 4294967295
       have d2 := inR_c a.seq 0 1048575
       have d3 := rFits_c ⟨3, 0, 0, false, a.cases⟩ (hh.k a (List.mem_of_getElem? ha))
       have h3 : (a.cases.map tCs).length = a.cases.length := List.length_map _
       rw [fitQ_sel] at d3
       cases hv : waitOK a
       ·rw [all_no ha hv]
        unfold waitOK at hv
        generalize inI a.ticket 0 4294967295 = b1 at *
        generalize inI a.seq 0 1048575 = b2 at *
        obtain ⟨on, tk, sq, l⟩ := a
        dsimp only at *
        have hst : l = [] ↔ l.length = 0 := List.length_eq_zero_iff.symm
        cases on
        ·have hv' : ¬ (tk = 0 ∧ sq = 0 ∧ l.length = 0) := fun h => by simp [h.1, h.2.1, hst.2 h.2.2] at hv
         repeat' (first | ((with_reducible refine kAL ?_); (first | refine uA ?_ | refine uS 100 (fun hb => ?_) (fun hb => ?_) | refine uS 105 (fun hb => ?_) (fun hb => ?_))) | refine uC ?_ | fail)
         all_goals first | (exfalso; omega) | (exact Fin.q Try.results117 (.cons (.tmp rfl) .nil) [])
        ·rw [if_pos rfl] at hv
         cases b1
         ·repeat' (first | ((with_reducible refine kAL ?_); (first | (refine kL 2410 rfl ?_; first | refine uK (d1) ?_) | refine uA ?_)) | refine uC ?_ | fail)
          all_goals first | (exfalso; omega) | (exact Fin.q Try.results117 (.cons (.tmp rfl) .nil) [])
         ·cases b2
          ·repeat' (first | ((with_reducible refine kAL ?_); (first | (refine kL 2410 rfl ?_; first | refine uK (d1) ?_ | refine uK (d2) ?_) | refine uA ?_)) | refine uC ?_ | fail)
           all_goals first | (exfalso; omega) | (exact Fin.q Try.results117 (.cons (.tmp rfl) .nil) [])
          ·by_cases k0 : l.length = 0
           ·repeat' (first | ((with_reducible refine kAL ?_); (first | (refine kL 2410 rfl ?_; first | refine uK (d1) ?_ | refine uK (d2) ?_) | refine uA ?_)) | refine uC ?_ | fail)
            all_goals first | (exfalso; omega) | (exact Fin.q Try.results117 (.cons (.tmp rfl) .nil) [])
           ·have : (decide (l.length ≤ 3) && l.all caseOK) = false := by
             have hd1 : decide (1 ≤ l.length ∧ l.length ≤ 3) = decide (l.length ≤ 3) := decide_eq_decide.2 (by omega)
             rw [hd1] at hv
             simpa using hv
            rw [this] at d3
            repeat' (first | ((with_reducible refine kAL ?_); (first | (refine kL 2410 rfl ?_; first | refine uK (d1) ?_ | refine uK (d2) ?_) | (refine kL 4266 rfl ?_; first | refine uK (d3) ?_) | refine uA ?_)) | refine uC ?_ | fail)
            all_goals first | (exfalso; omega) | (exact Fin.q Try.results117 (.cons (.tmp rfl) .nil) [])
       ·have hnx := all_next ha hv g3
        rcases waitOK_iff.1 hv with ⟨v0, v1, v2, v3, v4⟩ | ⟨v0, v1, v2, v3⟩
        ·rw [show inI a.ticket 0 4294967295 = true from decide_eq_true v1] at d1
         rw [show inI a.seq 0 1048575 = true from decide_eq_true v2] at d2
         rw [decide_eq_true v3.2, List.all_eq_true.2 v4] at d3
         obtain ⟨on, tk, sq, l⟩ := a
         dsimp only at *
         subst v0
         repeat' (first | ((with_reducible refine kAL ?_); (first | (refine kL 2410 rfl ?_; first | refine uK (d1) ?_ | refine uK (d2) ?_) | (refine kL 4266 rfl ?_; first | refine uK (d3) ?_) | refine uA ?_)) | refine uC ?_ | fail)
         all_goals first | (exfalso; omega) | skip
         refine ⟨i + 1, ⟨by omega, hnx⟩, by omega, ?_⟩
         exact Wk.cq 0
        ·obtain ⟨on, tk, sq, l⟩ := a
         dsimp only at *
         subst v0 v1 v2 v3
         repeat' (first | refine uA ?_ | refine uC ?_ | fail)
         all_goals first | (exfalso; omega) | skip
         refine ⟨i + 1, ⟨by omega, hnx⟩, by omega, ?_⟩
         exact Wk.cq 0
      ·rw [all_yes hi g3]
       repeat' (first | refine uA ?_ | refine uC ?_ | fail)
       all_goals first | (exfalso; omega) | (exact Fin.q Try.results117 (.cons (.tmp rfl) .nil) [])
end
end Go.Proofs.Ytnfbggpkiekpdaa
