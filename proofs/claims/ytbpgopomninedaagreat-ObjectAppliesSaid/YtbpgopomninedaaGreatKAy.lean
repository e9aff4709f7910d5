/- Joined: XTReadH, XTReadX, XTRef08, XTLifo. -/
import Derived.Test.YtbpgopomninedaaGreatKAg
import Derived.Test.YtbpgopomninedaaGreatKAx
import Derived.Test.YtbpgopomninedaaGreatKAw
import Derived.Test.YtbpgopomninedaaGreatKAr
namespace Go.Proofs.YtbpgopomninedaaGreat
open Go.RowKit
set_option linter.unusedVariables false
set_option linter.unusedSimpArgs false
set_option linter.unnecessarySimpa false
set_option maxRecDepth 100000
set_option maxHeartbeats 64000000
section
attribute [local irreducible] AL AW RG Fin C Cd Cio thenQ blockQ retQ
set_option maxRecDepth 100000
theorem equalU_c (a b : List Int) (ha : a.length ≤ 1152921504606846976) : Cd Tryz.prog 60 [.ln (a.map tU), .ln (b.map tU)] (bo (decide (a = b))) [] := by
 have h1 : (a.map tU).length = a.length := List.length_map _
 have h2 : (b.map tU).length = b.length := List.length_map _
 refine Cd.enter' Tryz.func60 rfl Tryz.ntmps60 rfl ?_
 repeat' (first | refine uA ?_ | refine uC ?_ | refine kcp rfl (fun hc => ?_) (fun hc => ?_) | fail)
 ·refine Fin.q Tryz.results60 (.cons (.tmp rfl) .nil) [] (hr := (.t ?_))
  have : a ≠ b := by rintro rfl; exact hc rfl
  simp [this]
 ·refine AW.loopP (fun (i : Nat) => ∀ j, j < i → a.getD j 0 = b.getD j 0) (fun (i : Nat) => (pu (pu (pu (pu (pu (fun _ => .any) 0 (.ln (a.map tU))) 1 (.ln (b.map tU))) 4 (.t (.v (.bool false)))) 12 (i64 (a.map tU).length)) 13 (i64 i))) (fun (i : Nat) => []) (fun (i : Nat) => a.length + 1 - i) (0) ?_ ?_ ?_
  ·intro j hj; omega
  ·exact Wk.cq 0
  ·intro i hi
   repeat' (first | refine uA ?_ | refine uR ?_ | refine uC ?_ | refine kcp rfl (fun hc => ?_) (fun hc => ?_) | refine AW.drawU (id := 6) mixed 0 qR ?_ | fail)
   ·refine Fin.q Tryz.results60 (.cons (.tmp rfl) .nil) [] (hr := (.t ?_))
    have : a ≠ b := by rintro rfl; exact hc rfl
    simp [this]
   ·refine ⟨i + 1, fun j hj => ?_, by omega, ?_⟩
    ·by_cases e : j = i
     ·subst e; exact Decidable.not_not.1 hc
     ·exact hi j (by omega)
    ·exact Wk.cq 0
   ·refine Fin.q Tryz.results60 (.cons (.tmp rfl) .nil) [] (hr := (.t ?_))
    have : a = b := all_eq (z := 0) (by omega) fun j hj => hi j (by omega)
    simp [this]
theorem rdCs_succ (n : Nat) (l : List Int) (i : Nat) : rdCs n l (i + 1) = rdCs n l i ++ [rdC n (l.drop (i * (n + 1)))] := by unfold rdCs; rw [List.range_succ]; simp
theorem rdWs_succ (l : List Int) (i : Nat) : rdWs l (i + 1) = rdWs l i ++ [rdW (l.drop (i * 4))] := by unfold rdWs; rw [List.range_succ]; simp
theorem rdCs_len (n : Nat) (l : List Int) (i : Nat) : (rdCs n l i).length = i := by simp [rdCs]
theorem rdWs_len (l : List Int) (i : Nat) : (rdWs l i).length = i := by simp [rdWs]
theorem okH_raw (c : DConf) (l : List Int) (h : l.length ≤ 1000000) (h1 : c.chans.toNat ≤ 1000000) (h2 : c.threads.toNat ≤ 1000000) : okH (rawH c l) := by
 refine ⟨?_, fun x hx => ?_, ?_, fun x hx => ?_, ?_⟩
 ·show (rdCs _ _ _).length ≤ _; rw [rdCs_len]; omega
 ·obtain ⟨i, _, rfl⟩ := List.mem_map.1 hx
  show (rdRow _ _ _).length ≤ _
  unfold rdRow; simp; omega
 ·show (rdWs _ _).length ≤ _; rw [rdWs_len]; omega
 ·obtain ⟨i, _, rfl⟩ := List.mem_map.1 hx
  show (((List.take _ _).map rdK).length) ≤ _
  simp; omega
 ·show (rdRs _ _).length ≤ _; unfold rdRs; simp; omega
theorem mayH_no {c : DConf} {l : List Int} (h : ¬ (chkC c = true ∧ c.kind = 3 ∧ (l.length : Int) = sizeC c)) : mayH c l = false := by
 unfold mayH
 cases hk : chkC c
 ·rfl
 ·by_cases k : c.kind = 3
  ·have : ¬ (l.length : Int) = sizeC c := fun e => h ⟨hk, k, e⟩
   rw [decide_eq_false this]; simp
  ·rw [decide_eq_false k]; rfl
theorem mayH_yes {c : DConf} {l : List Int} (hk : chkC c = true) (k : c.kind = 3) (e : (l.length : Int) = sizeC c) : mayH c l = decide (putH c (rawH c l) = l) := by
 unfold mayH; rw [hk, decide_eq_true k, decide_eq_true e]; rfl
theorem noH_of {c : DConf} {l : List Int} (h : mayH c l = false) : readH c l = noH := by unfold readH; rw [h]; rfl
theorem rawH_of {c : DConf} {l : List Int} (h : mayH c l = true) : readH c l = rawH c l := by unfold readH; rw [h]; rfl
abbrev cfCs (c : DConf) : List AV := [i64 c.kind, i64 c.threads, i64 c.chans, i64 c.cap, i64 c.nodes, i64 c.retire, i64 c.patience, i64 c.tags, i64 c.seqs, i64 c.gens, .ln (c.start.map tI)]
theorem readH_c (c : DConf) (l : List Int) (hs : c.start.length ≤ 1152921504606846976) (hU : okU l) (hl0 : l.length ≤ 1152921504606846976) : Cd Tryz.prog 27 [aCf c, fU l] (.tup [fHl (readH c l), bo (mayH c l)]) [] := by
 have c1 := check_c c hs
 have c2 := size_c c hs
 have g1 : (l.map tU).length = l.length := List.length_map _
 by_cases hA : chkC c = true ∧ c.kind = 3 ∧ (l.length : Int) = sizeC c
 ·obtain ⟨h0, h1, h2⟩ := hA
  rw [h0] at c1
  have hsh := chkC_shaped h0
  have hb := hsh.h3 h1
  have ht0 := hsh.t0
  have ht1 := hsh.t1
  obtain ⟨n, hn⟩ : ∃ n : Nat, c.cap = n := ⟨c.cap.toNat, by omega⟩
  obtain ⟨m, hm⟩ : ∃ m : Nat, c.chans = m := ⟨c.chans.toNat, by omega⟩
  obtain ⟨t, ht⟩ : ∃ t : Nat, c.threads = t := ⟨c.threads.toNat, by omega⟩
  have hlen : l.length = 1 + m * (n + 1) + t * 4 + t := by
   have h3 := h2
   rw [sizeC_H h0 h1, hn, hm, ht] at h3
   have e : ((m * (n + 1) : Nat) : Int) = (m : Int) * (1 + n) := by rw [Int.natCast_mul]; congr 1; omega
   omega
  have hmn : m * (n + 1) ≤ 72 := Nat.le_trans (Nat.mul_le_mul (show m ≤ 8 by omega) (show n + 1 ≤ 9 by omega)) (by decide)
  have hl : l.length ≤ 1000000 := by omega
  have hmul : ∀ i, i ≤ m → i * (n + 1) ≤ m * (n + 1) := fun i hi => Nat.mul_le_mul_right _ hi
  have hN := rnext_c l hl0
  have hb0 := okU_headD hU
  have hraw : rawH c l = ⟨l.headD 0 % 4294967296, rdCs n (l.drop 1) m, rdWs (l.drop (1 + m * (n + 1))) t, rdRs (l.drop (1 + m * (n + 1) + t * 4)) t⟩ := by unfold rawH; rw [hn, hm, ht]; rfl
  have cP := putH_c c (rawH c l) hs (okH_raw c l hl (by omega) (by omega))
  have hpl : (putH c (rawH c l)).length ≤ 1152921504606846976 := by
   cases hf : fitsH c (rawH c l)
   ·unfold putH; rw [hf]; exact Nat.zero_le _
   ·have := putH_len hf; omega
  have cE := equalU_c (putH c (rawH c l)) l hpl
  have hmay := mayH_yes h0 h1 h2
  rw [hraw] at cP
  first | refine Cd.enter' Tryz.func27 rfl Tryz.ntmps27 rfl ?_ | refine Cio.enter' Tryz.func27 rfl Tryz.ntmps27 rfl qM ?_ | refine C.enter' Tryz.func27 rfl Tryz.ntmps27 rfl qM ?_
  repeat' (first | ((with_reducible refine kAL ?_); (first | refine uK (c1) ?_ | refine uK (c2) ?_ | refine uI [2] (hN) ?_ | refine A_bits rfl rfl .and 31 31 _ _ rfl rfl rfl rfl (and_lit 32 (M := 4294967296) rfl rfl (by omega) (by omega) (by omega)) ?_ | refine uA ?_)) | refine uC ?_ | fail)
  all_goals first | (exfalso; omega) | skip
  refine AW.wk (Wk.ownB 3 1 rfl rfl 87 5 (.push rfl rfl) rfl) ?_
  refine AW.loopP (fun (i : Nat) => i ≤ m) (fun (i : Nat) => (pu (pu (pu (pu (pu (pu (pu (fun _ => .any) 1 (fU l)) 2 (.ptr 0 0)) 4 (.ptr 1 0)) 6 (.ptr 2 0)) 7 (.ptr 3 0)) 33 (i64 c.chans)) 34 (i64 i))) (fun (i : Nat) => [.box 24 (cfCs c), .box 49 [i64 0, .nl, .nl, .nl], aRd (l.drop (1 + i * (n + 1))), .box 49 [i64 (l.headD 0 % 4294967296), .sl 4 i i, .nl, .nl], .row i 87 5 ((rdCs n (l.drop 1) i).map tCh)]) (fun (i : Nat) => m - i) (0) ?_ ?_ ?_
  ·exact Nat.zero_le _
  ·rw [Nat.zero_mul]
   exact Wk.cq 5
  ·intro i h3
   have hL := rdCs_len n (l.drop 1) i
   have hLt : (rdCs n l.tail i).length = i := rdCs_len n l.tail i
   have hM := hmul i h3
   by_cases hi : i < m
   ·have hM1 := hmul (i + 1) hi
    have e1 : 1 + (i + 1) * (n + 1) = 1 + i * (n + 1) + (n + 1) := by rw [Nat.succ_mul]; omega
    have cC := rchan_c c n hn l hU (1 + i * (n + 1)) (by omega) hl
    have hsx := rdCs_succ n (l.drop 1) i
    rw [List.drop_drop] at hsx
    repeat' (first | refine uA ?_ | ((with_reducible refine kRG ?_); (first | refine uJ [2] (cC) ?_ | refine R_lit (N := 5) rfl rfl 45 1 _ rfl ud45 inf87 (.cons rfl .nil) (els := [[_, _, _, _, _]]) rfl (by exact (rfl : _ = List.map tCh [⟨_, _, _, _, _⟩])) rfl (Nat.ne_of_beq_eq_false rfl) (Nat.le_of_ble_eq_true rfl) (Nat.le_of_ble_eq_true rfl) rfl qN ?_ | refine R_append rfl rfl _ _ 45 rfl ud45 inf87 rfl rfl rfl (by (simp; omega)) (by exact .all rfl (by rfl)) qB qB (by exact app_one (f := tCh) (x := ⟨_, _, _, _, _⟩) (by omega)) qN qS ?_ | refine uR ?_)) | refine uC ?_ | refine AW.drawU (id := 7) mixed 2 qR ?_ | fail)
    all_goals first | (exfalso; omega) | skip
    refine ⟨i + 1, by omega, by omega, ?_⟩
    rw [hsx, e1]
    exact Wk.cq 5
   ·obtain rfl : i = m := by omega
    refine AW.wk (Wk.freezeB 4 rfl 3 rfl (.cons (.same _) (.cons (.all (by first | rfl | (simp <;> fail) | (simp; omega))) (.cons (.same _) (.cons (.same _) (.nil))))) rfl) ?_
    repeat' (first | refine uA ?_ | refine uC ?_ | fail)
    all_goals first | (exfalso; omega) | skip
    refine AW.wk (Wk.ownB 3 2 rfl rfl 90 4 (.push rfl rfl) rfl) ?_
    refine AW.loopP (fun (j : Nat) => j ≤ t) (fun (j : Nat) => (pu (pu (pu (pu (pu (pu (pu (fun _ => .any) 1 (fU l)) 2 (.ptr 0 0)) 4 (.ptr 1 0)) 6 (.ptr 2 0)) 7 (.ptr 3 0)) 46 (i64 c.threads)) 47 (i64 j))) (fun (j : Nat) => [.box 24 (cfCs c), .box 49 [i64 0, .nl, .nl, .nl], aRd (l.drop (1 + i * (n + 1) + j * 4)), .box 49 [i64 (l.headD 0 % 4294967296), .t (.lst ((rdCs n (l.drop 1) i).map tCh)), .sl 4 j j, .nl], .row j 90 4 ((rdWs (l.drop (1 + i * (n + 1))) j).map tWt)]) (fun (j : Nat) => t - j) (0) ?_ ?_ ?_
    ·exact Nat.zero_le _
    ·rw [Nat.zero_mul]
     exact Wk.cq3 [0, 1, 2, 3, 5]
    ·intro j h4
     have hL2 := rdWs_len (l.drop (1 + i * (n + 1))) j
     by_cases hj : j < t
     ·have e1 : 1 + i * (n + 1) + (j + 1) * 4 = 1 + i * (n + 1) + j * 4 + 4 := by omega
      have cW := rwait_c l hU (1 + i * (n + 1) + j * 4) (by omega) hl
      have hsx := rdWs_succ (l.drop (1 + i * (n + 1))) j
      rw [List.drop_drop] at hsx
      repeat' (first | refine uA ?_ | ((with_reducible refine kRG ?_); (first | refine R_append rfl rfl _ _ 46 rfl ud46 inf90 rfl rfl rfl (by (simp; omega)) (by exact .all rfl (by rfl)) qB qB (by exact app_one (f := tWt) (x := ⟨_, _, _, _⟩) (by omega)) qN qS ?_ | refine uJ [2] (cW) ?_ | refine R_lit (N := 5) rfl rfl 46 1 _ rfl ud46 inf90 (.cons rfl .nil) (els := [[_, _, _, _]]) rfl (by exact (rfl : _ = List.map tWt [⟨_, _, _, _⟩])) rfl (Nat.ne_of_beq_eq_false rfl) (Nat.le_of_ble_eq_true rfl) (Nat.le_of_ble_eq_true rfl) rfl qN ?_ | refine uR ?_)) | refine uC ?_ | refine AW.drawU (id := 11) mixed 2 qR ?_ | fail)
      all_goals first | (exfalso; omega) | skip
      refine ⟨j + 1, by omega, by omega, ?_⟩
      rw [hsx, e1]
      exact Wk.cq 5
     ·obtain rfl : j = t := by omega
      refine AW.wk (Wk.freezeB 4 rfl 3 rfl (.cons (.same _) (.cons (.same _) (.cons (.all (by first | rfl | (simp <;> fail) | (simp; omega))) (.cons (.same _) (.nil))))) rfl) ?_
      have cR := rresR_n l hU c.threads j (1 + i * (n + 1) + j * 4) ht (by omega) hl
      by_cases e : putH c (rawH c l) = l
      ·rw [decide_eq_true e] at cE hmay
       rw [rawH_of hmay, hmay, hraw]
       rw [hraw] at cE
       repeat' (first | ((with_reducible refine kAL ?_); (first | refine uI [2] (cR) ?_ | refine uK (cP) ?_ | refine uK (cE) ?_ | refine uA ?_)) | refine uC ?_ | fail)
       all_goals first | (exfalso; omega) | (exact Fin.q Tryz.results27 (.cons (.agg rfl rfl ud49 rfl inf49 (us := [_, _, _, _]) rfl rfl) (.cons (.tmp rfl) .nil)) [])
      ·rw [decide_eq_false e] at cE hmay
       rw [noH_of hmay, hmay]
       rw [hraw] at cE
       repeat' (first | ((with_reducible refine kAL ?_); (first | (refine zkD 68 rfl ?_; refine uA ?_; (try refine AL.wk (Wk.nz 68 rfl (by exact .aggL (.cons (by exact .same _) (.cons (by exact .nlt) (.cons (by exact .nlt) (.cons (by exact .nlt) .nil)))))) ?_)) | refine uI [2] (cR) ?_ | refine uK (cP) ?_ | refine uK (cE) ?_ | refine uA ?_)) | refine uC ?_ | fail)
       all_goals first | (exfalso; omega) | (exact Fin.q Tryz.results27 (.cons (.agg rfl rfl ud49 rfl inf49 (us := [_, _, _, _]) rfl rfl) (.cons (.tmp rfl) .nil)) [])
 ·have hmay := mayH_no hA
  rw [noH_of hmay, hmay]
  cases h0 : chkC c
  ·rw [h0] at c1
   first | refine Cd.enter' Tryz.func27 rfl Tryz.ntmps27 rfl ?_ | refine Cio.enter' Tryz.func27 rfl Tryz.ntmps27 rfl qM ?_ | refine C.enter' Tryz.func27 rfl Tryz.ntmps27 rfl qM ?_
   repeat' (first | ((with_reducible refine kAL ?_); (first | (refine zkD 23 rfl ?_; refine uA ?_; (try refine AL.wk (Wk.nz 23 rfl (by exact .aggL (.cons (by exact .same _) (.cons (by exact .nlt) (.cons (by exact .nlt) (.cons (by exact .nlt) .nil)))))) ?_)) | refine uK (c1) ?_ | refine uA ?_)) | refine uC ?_ | fail)
   all_goals first | (exfalso; omega) | (exact Fin.q Tryz.results27 (.cons (.agg rfl rfl ud49 rfl inf49 (us := [_, _, _, _]) rfl rfl) (.cons (.tmp rfl) .nil)) [])
  ·rw [h0] at c1
   by_cases k : c.kind = 3
   ·have e : ¬ (l.length : Int) = sizeC c := fun e => hA ⟨h0, k, e⟩
    first | refine Cd.enter' Tryz.func27 rfl Tryz.ntmps27 rfl ?_ | refine Cio.enter' Tryz.func27 rfl Tryz.ntmps27 rfl qM ?_ | refine C.enter' Tryz.func27 rfl Tryz.ntmps27 rfl qM ?_
    repeat' (first | ((with_reducible refine kAL ?_); (first | (refine zkD 23 rfl ?_; refine uA ?_; (try refine AL.wk (Wk.nz 23 rfl (by exact .aggL (.cons (by exact .same _) (.cons (by exact .nlt) (.cons (by exact .nlt) (.cons (by exact .nlt) .nil)))))) ?_)) | refine uK (c1) ?_ | refine uK (c2) ?_ | refine uA ?_)) | refine uC ?_ | fail)
    all_goals first | (exfalso; omega) | (exact Fin.q Tryz.results27 (.cons (.agg rfl rfl ud49 rfl inf49 (us := [_, _, _, _]) rfl rfl) (.cons (.tmp rfl) .nil)) [])
   ·first | refine Cd.enter' Tryz.func27 rfl Tryz.ntmps27 rfl ?_ | refine Cio.enter' Tryz.func27 rfl Tryz.ntmps27 rfl qM ?_ | refine C.enter' Tryz.func27 rfl Tryz.ntmps27 rfl qM ?_
    repeat' (first | ((with_reducible refine kAL ?_); (first | (refine zkD 23 rfl ?_; refine uA ?_; (try refine AL.wk (Wk.nz 23 rfl (by exact .aggL (.cons (by exact .same _) (.cons (by exact .nlt) (.cons (by exact .nlt) (.cons (by exact .nlt) .nil)))))) ?_)) | refine uK (c1) ?_ | refine uA ?_)) | refine uC ?_ | fail)
    all_goals first | (exfalso; omega) | (exact Fin.q Tryz.results27 (.cons (.agg rfl rfl ud49 rfl inf49 (us := [_, _, _, _]) rfl rfl) (.cons (.tmp rfl) .nil)) [])
end
section
attribute [local irreducible] AL AW RG Fin C Cd Cio thenQ blockQ retQ
set_option maxRecDepth 100000
theorem mayX_no {c : DConf} {l : List Int} (h : ¬ (chkC c = true ∧ c.kind ≠ 3 ∧ (l.length : Int) = sizeC c)) : mayX c l = false := by
 unfold mayX
 cases hk : chkC c
 ·rfl
 ·by_cases k : c.kind ≠ 3
  ·have : ¬ (l.length : Int) = sizeC c := fun e => h ⟨hk, k, e⟩
   rw [decide_eq_false this]; simp
  ·rw [decide_eq_false k]; rfl
theorem mayX_yes {c : DConf} {l : List Int} (hk : chkC c = true) (k : c.kind ≠ 3) (e : (l.length : Int) = sizeC c) : mayX c l = decide (putX c (rawX c l) = l) := by
 unfold mayX; rw [hk, decide_eq_true k, decide_eq_true e]; rfl
theorem noX_of {c : DConf} {l : List Int} (h : mayX c l = false) : readX c l = noX := by unfold readX; rw [h]; rfl
theorem rawX_of {c : DConf} {l : List Int} (h : mayX c l = true) : readX c l = rawX c l := by unfold readX; rw [h]; rfl
theorem rdRow_cut (l : List Int) (n : Nat) (m k : Int) (hn : (n : Int) ≤ k) (hm : 0 ≤ m) : rdRow l n (min m k) = rdRow l n m := by rw [rdRow_eq, rdRow_eq]; congr 2; omega
theorem readX_c (c : DConf) (l : List Int) (hs : c.start.length ≤ 1152921504606846976) (hU : okU l) (hl0 : l.length ≤ 1152921504606846976) : Cd Tryz.prog 52 [aCf c, fU l] (.tup [fCl (readX c l), bo (mayX c l)]) [] := by
 have c1 := check_c c hs
 have c2 := size_c c hs
 have g1 : (l.map tU).length = l.length := List.length_map _
 by_cases hA : chkC c = true ∧ c.kind ≠ 3 ∧ (l.length : Int) = sizeC c
 ·obtain ⟨h0, h1, h2⟩ := hA
  rw [h0] at c1
  have hsh := chkC_shaped h0
  have hb := hsh.h1 h1
  have ht0 := hsh.t0
  have ht1 := hsh.t1
  obtain ⟨n, hn⟩ : ∃ n : Nat, c.cap = n := ⟨c.cap.toNat, by omega⟩
  obtain ⟨t, ht⟩ : ∃ t : Nat, c.threads = t := ⟨c.threads.toNat, by omega⟩
  have hlen : l.length = 1 + n + t := by
   have h3 := h2
   rw [sizeC_X h0 h1, hn, ht] at h3
   omega
  have hl : l.length ≤ 1000000 := by omega
  have hN := rnext_c l hl0
  have hb0 := okU_headD hU
  have hraw : rawX c l = ⟨c.cap, rdRow (l.drop 1) n (min (l.headD 0) 17), rdRs (l.drop (1 + n)) t⟩ := by unfold rawX; rw [rdRow_cut _ _ _ _ (by omega) hb0.1, hn, ht]; rfl
  have cR := rrow_n l hU (min (l.headD 0) 17) c.cap n 1 hn (by omega) hl (by omega)
  have cS := rresR_n l hU c.threads t (1 + n) ht (by omega) hl
  have k1 : (rawX c l).list.length ≤ 1152921504606846976 := by
   rw [hraw]; have := rdRow_len (l.drop 1) n (min (l.headD 0) 17); show (rdRow _ _ _).length ≤ _; omega
  have k2 : (rawX c l).done.length ≤ 1152921504606846976 := by rw [hraw]; show (rdRs _ _).length ≤ _; simp [rdRs]; omega
  have cP := putX_c c (rawX c l) hs k1 k2
  have hpl : (putX c (rawX c l)).length ≤ 1152921504606846976 := by
   cases hf : fitsX c (rawX c l)
   ·unfold putX; rw [hf]; exact Nat.zero_le _
   ·have := putX_len hf; omega
  have cE := equalU_c (putX c (rawX c l)) l hpl
  have hmay := mayX_yes h0 h1 h2
  rw [hraw] at cP
  by_cases e : putX c (rawX c l) = l
  ·rw [decide_eq_true e] at cE hmay
   rw [rawX_of hmay, hmay, hraw]
   rw [hraw] at cE
   first | refine Cd.enter' Tryz.func52 rfl Tryz.ntmps52 rfl ?_ | refine Cio.enter' Tryz.func52 rfl Tryz.ntmps52 rfl qM ?_ | refine C.enter' Tryz.func52 rfl Tryz.ntmps52 rfl qM ?_
   repeat' (first | ((with_reducible refine kAL ?_); (first | refine uK (c1) ?_ | refine uK (c2) ?_ | refine uI [2] (hN) ?_ | refine uK (cP) ?_ | refine uK (cE) ?_ | refine uA ?_)) | ((with_reducible refine kRG ?_); (first | refine uJ [2] (cR) ?_ | refine uJ [2] (cS) ?_ | refine uR ?_)) | refine uC ?_ | refine AW.drawU (id := 5) mixed 1 qR ?_ | fail)
   all_goals first | (exfalso; omega) | (exact Fin.q Tryz.results52 (.cons (.agg rfl rfl ud53 rfl inf53 (us := [_, _, _]) rfl rfl) (.cons (.tmp rfl) .nil)) [])
  ·rw [decide_eq_false e] at cE hmay
   rw [noX_of hmay, hmay]
   rw [hraw] at cE
   first | refine Cd.enter' Tryz.func52 rfl Tryz.ntmps52 rfl ?_ | refine Cio.enter' Tryz.func52 rfl Tryz.ntmps52 rfl qM ?_ | refine C.enter' Tryz.func52 rfl Tryz.ntmps52 rfl qM ?_
   repeat' (first | ((with_reducible refine kAL ?_); (first | (refine zkD 50 rfl ?_; refine uA ?_; (try refine AL.wk (Wk.nz 50 rfl (by exact .aggL (.cons (by exact .same _) (.cons (by exact .nlt) (.cons (by exact .nlt) .nil))))) ?_)) | refine uK (c1) ?_ | refine uK (c2) ?_ | refine uI [2] (hN) ?_ | refine uK (cP) ?_ | refine uK (cE) ?_ | refine uA ?_)) | ((with_reducible refine kRG ?_); (first | refine uJ [2] (cR) ?_ | refine uJ [2] (cS) ?_ | refine uR ?_)) | refine uC ?_ | refine AW.drawU (id := 5) mixed 1 qR ?_ | fail)
   all_goals first | (exfalso; omega) | (exact Fin.q Tryz.results52 (.cons (.agg rfl rfl ud53 rfl inf53 (us := [_, _, _]) rfl rfl) (.cons (.tmp rfl) .nil)) [])
 ·have hmay := mayX_no hA
  rw [noX_of hmay, hmay]
  cases h0 : chkC c
  ·rw [h0] at c1
   first | refine Cd.enter' Tryz.func52 rfl Tryz.ntmps52 rfl ?_ | refine Cio.enter' Tryz.func52 rfl Tryz.ntmps52 rfl qM ?_ | refine C.enter' Tryz.func52 rfl Tryz.ntmps52 rfl qM ?_
   repeat' (first | ((with_reducible refine kAL ?_); (first | (refine zkD 24 rfl ?_; refine uA ?_; (try refine AL.wk (Wk.nz 24 rfl (by exact .aggL (.cons (by exact .same _) (.cons (by exact .nlt) (.cons (by exact .nlt) .nil))))) ?_)) | refine uK (c1) ?_ | refine uA ?_)) | refine uC ?_ | fail)
   all_goals first | (exfalso; omega) | (exact Fin.q Tryz.results52 (.cons (.agg rfl rfl ud53 rfl inf53 (us := [_, _, _]) rfl rfl) (.cons (.tmp rfl) .nil)) [])
  ·rw [h0] at c1
   by_cases k : c.kind = 3
   ·first | refine Cd.enter' Tryz.func52 rfl Tryz.ntmps52 rfl ?_ | refine Cio.enter' Tryz.func52 rfl Tryz.ntmps52 rfl qM ?_ | refine C.enter' Tryz.func52 rfl Tryz.ntmps52 rfl qM ?_
    repeat' (first | ((with_reducible refine kAL ?_); (first | (refine zkD 24 rfl ?_; refine uA ?_; (try refine AL.wk (Wk.nz 24 rfl (by exact .aggL (.cons (by exact .same _) (.cons (by exact .nlt) (.cons (by exact .nlt) .nil))))) ?_)) | refine uK (c1) ?_ | refine uA ?_)) | refine uC ?_ | fail)
    all_goals first | (exfalso; omega) | (exact Fin.q Tryz.results52 (.cons (.agg rfl rfl ud53 rfl inf53 (us := [_, _, _]) rfl rfl) (.cons (.tmp rfl) .nil)) [])
   ·have e : ¬ (l.length : Int) = sizeC c := fun e => hA ⟨h0, k, e⟩
    first | refine Cd.enter' Tryz.func52 rfl Tryz.ntmps52 rfl ?_ | refine Cio.enter' Tryz.func52 rfl Tryz.ntmps52 rfl qM ?_ | refine C.enter' Tryz.func52 rfl Tryz.ntmps52 rfl qM ?_
    repeat' (first | ((with_reducible refine kAL ?_); (first | (refine zkD 24 rfl ?_; refine uA ?_; (try refine AL.wk (Wk.nz 24 rfl (by exact .aggL (.cons (by exact .same _) (.cons (by exact .nlt) (.cons (by exact .nlt) .nil))))) ?_)) | refine uK (c1) ?_ | refine uK (c2) ?_ | refine uA ?_)) | refine uC ?_ | fail)
    all_goals first | (exfalso; omega) | (exact Fin.q Tryz.results52 (.cons (.agg rfl rfl ud53 rfl inf53 (us := [_, _, _]) rfl rfl) (.cons (.tmp rfl) .nil)) [])
end
section
attribute [local irreducible] AL AW RG Fin C Cd Cio thenQ blockQ retQ
set_option maxRecDepth 100000
theorem refApply_c (cap : Int) (l : List Int) (d : List Rst) (t s k ar v : Int) (last : Bool) (hl : l.length ≤ 17592186044400) (hd : d.length ≤ 4398046511104) :
  Cd Tryz.prog 33 [.agg [i64 cap, .ln (l.map tI), .ln (d.map tR)], i64 t, i64 s, .agg [i64 k, i64 ar, i64 v, .any, .any], .t (.v (.bool last))]
   (.agg [i64 cap, .t (.lst ((appl last cap l d t s k v).1.map tI)), .t (.lst ((appl last cap l d t s k v).2.map tR))]) [] := by
 have h1 : (l.map tI).length = l.length := List.length_map _
 refine Cd.enter' Tryz.func33 rfl Tryz.ntmps33 rfl ?_
 repeat' (first | ((with_reducible refine kAL ?_); (first | (refine zkD 100 rfl ?_; refine uA ?_; (try refine AL.wk (Wk.freeze 3 rfl 100 rfl (by first | exact .aggL (.cons (by exact .same _) (.cons (by first | exact .all (by first | rfl | (simp <;> fail) | fail) | exact .sl (by first | exact Nat.le_refl _ | (simp <;> fail) | fail) | exact .sub (by (simp; omega))) (.cons (by exact .same _) .nil))) | fail) qN) ?_); (try refine AL.wk (Wk.freeze 4 rfl 100 rfl (by first | exact .aggL (.cons (by exact .same _) (.cons (by exact .same _) (.cons (by first | exact .all (by first | (simp <;> fail) | fail) | fail) .nil))) | fail) qN) ?_)) | refine A_store_rp rfl rfl 42 _ _ rfl inf42 (by decide) rfl rfl (by exact map_get (get_D (x := ⟨0, 0, 0, 0⟩) (by omega))) rfl rfl rfl (Nat.le_of_ble_eq_true rfl) (by exact map_set (f := tR) (x := ⟨_, _, _, _⟩)) qN ?_ | refine A_lit rfl rfl 22 1 _ rfl ud22 inf3 (.cons rfl .nil) (els := [[_]]) rfl (by exact (rfl : _ = List.map tI [_])) rfl (Nat.ne_of_beq_eq_false rfl) (Nat.le_of_ble_eq_true rfl) (Nat.le_of_ble_eq_true rfl) (.push qL qN) ?_ | refine uA ?_ | refine uS 88 (fun hb => ?_) (fun hb => ?_))) | refine uR ?_ | refine uC ?_ | refine kcp rfl (fun hc => ?_) (fun hc => ?_) | refine kcc rfl (fun hc => ?_) (fun hc => ?_) | refine AW.drawU (id := 1) mixed 3 qR ?_ | fail)
 all_goals first | ((refine Fin.mkv (rs := _) Tryz.results33 (.cons (.agg rfl rfl ud53 rfl inf53 (us := [_, _, _]) rfl rfl) .nil) [] (by decide) rfl ?_ ?_ ?_ <;> repeat' (skip; first | exact .nil | refine .cons rfl ?_ ?_ | refine .cons ?_ ?_ | refine .row ?_ | refine .rset ?_ | refine .box ?_ | exact .gone | refine .aggL ?_ | refine .tupL ?_ | refine .old rfl ?_ | refine .new rfl rfl rfl ?_ | exact .nl | exact .optr rfl | exact .nptr rfl rfl rfl | refine .t ?_ | exact .any _ | rfl)))
 all_goals (try simp only [List.length_map] at *)
 all_goals (unfold appl setR; (repeat' split); all_goals first | rfl | (exfalso; omega) | exact congrArg Tr.lst (take_drop_map (off := 1) (by omega)) | (simp_all <;> fail) | (simp_all; omega))
end
section
attribute [local irreducible] AL AW RG Fin C Cd Cio thenQ blockQ retQ
set_option maxRecDepth 100000
def stepL (cap : Int) (l : List Int) (k v : Int) : List Int × Rst :=
 if k = 8 ∧ (l.length : Int) < cap then (l ++ [v], ⟨0, 0, 0, 0⟩)
 else if k = 9 ∧ 0 < (l.length : Int) then (l.take (l.length - 1), ⟨0, 0, 0, l.getD (l.length - 1) 0⟩)
 else if k = 8 ∨ k = 9 then (l, ⟨0, 0, 10, 0⟩)
 else if k = 5 then (l, ⟨0, 0, 0, l.length⟩)
 else if k = 6 then (l, ⟨0, 0, 0, cap⟩)
 else (l, ⟨0, 0, 1, 0⟩)
theorem step_appl (cap : Int) (l : List Int) (d : List Rst) (t s k v : Int) : appl true cap l d t s k v = ((stepL cap l k v).1, setR d t ⟨s, (stepL cap l k v).2.cas, (stepL cap l k v).2.code, (stepL cap l k v).2.value⟩) := by
 unfold appl stepL
 by_cases h8 : k = 8
 ·subst h8
  by_cases h : (l.length : Int) ≥ cap
  ·simp [h, show ¬ (l.length : Int) < cap by omega]
  ·simp [h, show (l.length : Int) < cap by omega]
 ·by_cases h9 : k = 9
  ·subst h9
   by_cases h : l.length = 0
   ·have : l = [] := List.eq_nil_of_length_eq_zero h
    subst this; simp
   ·have h' : l ≠ [] := by rintro rfl; simp at h
    simp [h', show (0 < l.length) by omega]
  ·simp only [h8, h9, false_and, or_self, if_false]
   repeat' split
   all_goals rfl
theorem step_c (cap : Int) (l : List Int) (k ar v : Int) (hl : l.length ≤ 17592186044400) :
  Cd Tryz.prog 88 [.ln (l.map tI), i64 cap, .agg [i64 k, i64 ar, i64 v, .any, .any]] (.tup [.sl 0 0 (stepL cap l k v).1.length, .agg ((tR (stepL cap l k v).2).map .t)]) [.row 0 3 1 ((stepL cap l k v).1.map tI)] := by
 have h1 : (l.map tI).length = l.length := List.length_map _
 refine Cd.enter' Tryz.func88 rfl Tryz.ntmps88 rfl ?_
 repeat' (first | ((with_reducible refine kAL ?_); (first | (refine uK (clone_I l ?zq0) ?_; (case zq0 => omega)) | refine uA ?_ | refine uS 15 (fun hb => ?_) (fun hb => ?_) | refine uS 31 (fun hb => ?_) (fun hb => ?_))) | ((with_reducible refine kRG ?_); (first | (refine uQ (clone_I l ?zq0) 2 ?_; (case zq0 => omega)) | (refine uQ (clone_I (l.take _) ?zq0) 2 ?_; (case zq0 => simp; omega)) | refine R_lit (N := 3) rfl rfl 22 1 _ rfl ud22 inf3 (.cons rfl .nil) (els := [[_]]) rfl (by exact (rfl : _ = List.map tI [_])) rfl (Nat.ne_of_beq_eq_false rfl) (Nat.le_of_ble_eq_true rfl) (Nat.le_of_ble_eq_true rfl) rfl qN ?_ | refine uR ?_)) | refine uC ?_ | refine kcp rfl (fun hc => ?_) (fun hc => ?_) | refine AW.drawU (id := 3) mixed 4 qR ?_ | refine AW.drawU (id := 5) mixed 2 qR ?_ | fail)
 all_goals ((refine Fin.mkv (rs := _) Tryz.results88 (.cons (.tmp rfl) (.cons (.agg rfl rfl ud42 rfl inf42 (us := [_, _, _, _]) rfl rfl) .nil)) [2] (by decide) rfl ?_ ?_ ?_ <;> repeat' (skip; first | exact .nil | refine .cons rfl ?_ ?_ | refine .cons ?_ ?_ | refine .row ?_ | refine .rset ?_ | refine .box ?_ | exact .gone | refine .aggL ?_ | refine .tupL ?_ | refine .old rfl ?_ | refine .new rfl rfl rfl ?_ | exact .nl | exact .optr rfl | exact .nptr rfl rfl rfl | refine .t ?_ | exact .any _ | rfl)))
 all_goals (try simp only [List.length_map] at *)
 all_goals (unfold stepL; repeat (first | rw [if_pos (by omega)] | rw [if_neg (by omega)]))
 all_goals first | rfl | (simp [show ((l.length : Int) - 1).toNat = l.length - 1 by omega]; done)
theorem lifoApply_c (cap : Int) (l : List Int) (d : List Rst) (t s k ar v : Int) (hl : l.length ≤ 17592186044400) (hd : d.length ≤ 4398046511104) :
  Cd Tryz.prog 53 [.agg [i64 cap, .ln (l.map tI), .ln (d.map tR)], i64 t, i64 s, .agg [i64 k, i64 ar, i64 v, .any, .any]]
   (.agg [i64 cap, .sl 0 0 (appl true cap l d t s k v).1.length, .sl 1 0 d.length]) [.row 0 3 1 ((appl true cap l d t s k v).1.map tI), .row 0 42 4 ((appl true cap l d t s k v).2.map tR)] := by
 rw [step_appl]
 simp only
 generalize hst : stepL cap l k v = st
 obtain ⟨l', r⟩ := st
 have hs := step_c cap l k ar v hl
 rw [hst] at hs
 by_cases h0 : 0 ≤ t
 ·by_cases h1 : t < d.length
  ·rw [setR_yes h0 h1]
   obtain ⟨i, rfl⟩ := Int.eq_ofNat_of_zero_le h0
   rw [Int.toNat_natCast]
   have h2 : i < d.length := by omega
   obtain ⟨x, hx⟩ : ∃ x, d[i]? = some x := ⟨_, List.getElem?_eq_getElem h2⟩
   refine Cd.enter' Tryz.func53 rfl Tryz.ntmps53 rfl ?_
   repeat' (first | ((with_reducible refine kAL ?_); (first | refine uK (hs) ?_ | refine uA ?_)) | ((with_reducible refine kRG ?_); (first | (refine uQ (clone_R d ?zq0) 3 ?_; (case zq0 => omega)) | refine uR ?_)) | refine uC ?_ | refine AW.drawU (id := 1) mixed 3 qR ?_ | fail)
   all_goals (exact Fin.q Tryz.results53 (.cons (.agg rfl rfl ud53 rfl inf53 (us := [_, _, _]) rfl rfl) .nil) [6, 3])
  ·rw [setR_no (fun h => h1 h.2)]
   refine Cd.enter' Tryz.func53 rfl Tryz.ntmps53 rfl ?_
   repeat' (first | ((with_reducible refine kAL ?_); (first | refine uK (hs) ?_ | refine uA ?_)) | ((with_reducible refine kRG ?_); (first | (refine uQ (clone_R d ?zq0) 3 ?_; (case zq0 => omega)) | refine uR ?_)) | refine uC ?_ | refine AW.drawU (id := 1) mixed 3 qR ?_ | fail)
   all_goals (exact Fin.q Tryz.results53 (.cons (.agg rfl rfl ud53 rfl inf53 (us := [_, _, _]) rfl rfl) .nil) [6, 3])
 ·rw [setR_no (fun h => h0 h.1)]
  refine Cd.enter' Tryz.func53 rfl Tryz.ntmps53 rfl ?_
  repeat' (first | ((with_reducible refine kAL ?_); (first | refine uK (hs) ?_ | refine uA ?_)) | ((with_reducible refine kRG ?_); (first | (refine uQ (clone_R d ?zq0) 3 ?_; (case zq0 => omega)) | refine uR ?_)) | refine uC ?_ | refine AW.drawU (id := 1) mixed 3 qR ?_ | fail)
  all_goals (exact Fin.q Tryz.results53 (.cons (.agg rfl rfl ud53 rfl inf53 (us := [_, _, _]) rfl rfl) .nil) [6, 3])
end
end Go.Proofs.YtbpgopomninedaaGreat
