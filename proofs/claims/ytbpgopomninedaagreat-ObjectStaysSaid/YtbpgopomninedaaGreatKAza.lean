/- Joined: XTReadS, XTObjR, XTPOps. -/
import Derived.Test.YtbpgopomninedaaGreatKAg
import Derived.Test.YtbpgopomninedaaGreatKAz
import Derived.Test.YtbpgopomninedaaGreatKAx
namespace Go.Proofs.YtbpgopomninedaaGreat
open Go.RowKit
set_option linter.unusedVariables false
set_option linter.unusedSimpArgs false
set_option linter.unnecessarySimpa false
set_option maxRecDepth 100000
set_option maxHeartbeats 64000000
section
attribute [local irreducible] AL AW RG Fin C Cd Cio thenQ blockQ retQ
set_option maxRecDepth 100000
theorem rreadH_c (c : DConf) (l : List Int) (hs : c.start.length ≤ 1152921504606846976) (hU : okU l) (hl0 : l.length ≤ 1152921504606846976) : Cd Tryz.prog 17 [aCf c, fU l] (.tup [fHl (readH c l), bo (mayH c l)]) [] := by
 have c1 := rchk_c c hs
 have c2 := rsize_c c hs
 have g1 : (l.map tU).length = l.length := List.length_map _
 by_cases hA : chkC c = true ∧ c.kind = 3 ∧ (l.length : Int) = sizeC c
 ·obtain ⟨h0, h1, h2⟩ := hA
  rw [h0] at c1
  have hsh := chkC_shaped h0
  have hb := hsh.h3 h1
  have ht0 := hsh.t0
  have ht1 := hsh.t1
  obtain ⟨n, hn⟩ : ∃ n : Nat, c.cap = n := ⟨c.cap.toNat, by omega⟩
  obtain ⟨m, hm⟩ : ∃ m : Nat, c.chans = m := ⟨c.chans.toNat, by omega⟩
  obtain ⟨t, ht⟩ : ∃ t : Nat, c.threads = t := ⟨c.threads.toNat, by omega⟩
  have hlen : l.length = 1 + m * (n + 1) + t * 4 + t := by
   have h3 := h2
   rw [sizeC_H h0 h1, hn, hm, ht] at h3
   have e : ((m * (n + 1) : Nat) : Int) = (m : Int) * (1 + n) := by rw [Int.natCast_mul]; congr 1; omega
   omega
  have hmn : m * (n + 1) ≤ 72 := Nat.le_trans (Nat.mul_le_mul (show m ≤ 8 by omega) (show n + 1 ≤ 9 by omega)) (by decide)
  have hl : l.length ≤ 1000000 := by omega
  have hraw : rawH c l = ⟨l.headD 0 % 4294967296, rdCs n (l.drop 1) m, rdWs (l.drop (1 + m * (n + 1))) t, rdRs (l.drop (1 + m * (n + 1) + t * 4)) t⟩ := by unfold rawH; rw [hn, hm, ht]; rfl
  have cQ := rhall_c c l hU n m t hn hm ht hlen hmn (by omega)
  have cP := rputH_c c (rawH c l) hs (okH_raw c l hl (by omega) (by omega))
  have hpl : (putH c (rawH c l)).length ≤ 1152921504606846976 := by
   cases hf : fitsH c (rawH c l)
   ·unfold putH; rw [hf]; exact Nat.zero_le _
   ·have := putH_len hf; omega
  have cE := sameU_c (putH c (rawH c l)) l hpl
  have hmay := mayH_yes h0 h1 h2
  rw [← hraw] at cQ
  by_cases e : putH c (rawH c l) = l
  ·rw [decide_eq_true e] at cE hmay
   rw [rawH_of hmay, hmay]
   generalize rawH c l = H0 at *
   generalize putH c H0 = L0 at *
   first | refine Cd.enter' Tryz.func17 rfl Tryz.ntmps17 rfl ?_ | refine Cio.enter' Tryz.func17 rfl Tryz.ntmps17 rfl qM ?_ | refine C.enter' Tryz.func17 rfl Tryz.ntmps17 rfl qM ?_
   repeat' (first | ((with_reducible refine kAL ?_); (first | refine uK (c1) ?_ | refine uK (c2) ?_ | refine uK (cQ) ?_ | refine uK (cP) ?_ | refine uK (cE) ?_ | refine uA ?_)) | refine uC ?_ | fail)
   all_goals first | (exfalso; omega) | (exact Fin.q Tryz.results17 (.cons (.agg rfl rfl ud49 rfl inf49 (us := [_, _, _, _]) rfl rfl) (.cons (.tmp rfl) .nil)) [])
  ·rw [decide_eq_false e] at cE hmay
   rw [noH_of hmay, hmay]
   generalize rawH c l = H0 at *
   generalize putH c H0 = L0 at *
   first | refine Cd.enter' Tryz.func17 rfl Tryz.ntmps17 rfl ?_ | refine Cio.enter' Tryz.func17 rfl Tryz.ntmps17 rfl qM ?_ | refine C.enter' Tryz.func17 rfl Tryz.ntmps17 rfl qM ?_
   repeat' (first | ((with_reducible refine kAL ?_); (first | (refine zkD 32 rfl ?_; refine uA ?_; (try refine AL.wk (Wk.nz 32 rfl (by exact .aggL (.cons (by exact .same _) (.cons (by exact .nlt) (.cons (by exact .nlt) (.cons (by exact .nlt) .nil)))))) ?_)) | refine uK (c1) ?_ | refine uK (c2) ?_ | refine uK (cQ) ?_ | refine uK (cP) ?_ | refine uK (cE) ?_ | refine uA ?_)) | refine uC ?_ | fail)
   all_goals first | (exfalso; omega) | (exact Fin.q Tryz.results17 (.cons (.agg rfl rfl ud49 rfl inf49 (us := [_, _, _, _]) rfl rfl) (.cons (.tmp rfl) .nil)) [])
 ·have hmay := mayH_no hA
  rw [noH_of hmay, hmay]
  cases h0 : chkC c
  ·rw [h0] at c1
   first | refine Cd.enter' Tryz.func17 rfl Tryz.ntmps17 rfl ?_ | refine Cio.enter' Tryz.func17 rfl Tryz.ntmps17 rfl qM ?_ | refine C.enter' Tryz.func17 rfl Tryz.ntmps17 rfl qM ?_
   repeat' (first | ((with_reducible refine kAL ?_); (first | (refine zkD 22 rfl ?_; refine uA ?_; (try refine AL.wk (Wk.nz 22 rfl (by exact .aggL (.cons (by exact .same _) (.cons (by exact .nlt) (.cons (by exact .nlt) (.cons (by exact .nlt) .nil)))))) ?_)) | refine uK (c1) ?_ | refine uA ?_)) | refine uC ?_ | fail)
   all_goals first | (exfalso; omega) | (exact Fin.q Tryz.results17 (.cons (.agg rfl rfl ud49 rfl inf49 (us := [_, _, _, _]) rfl rfl) (.cons (.tmp rfl) .nil)) [])
  ·rw [h0] at c1
   by_cases k : c.kind = 3
   ·have e : ¬ (l.length : Int) = sizeC c := fun e => hA ⟨h0, k, e⟩
    first | refine Cd.enter' Tryz.func17 rfl Tryz.ntmps17 rfl ?_ | refine Cio.enter' Tryz.func17 rfl Tryz.ntmps17 rfl qM ?_ | refine C.enter' Tryz.func17 rfl Tryz.ntmps17 rfl qM ?_
    repeat' (first | ((with_reducible refine kAL ?_); (first | (refine zkD 22 rfl ?_; refine uA ?_; (try refine AL.wk (Wk.nz 22 rfl (by exact .aggL (.cons (by exact .same _) (.cons (by exact .nlt) (.cons (by exact .nlt) (.cons (by exact .nlt) .nil)))))) ?_)) | refine uK (c1) ?_ | refine uK (c2) ?_ | refine uA ?_)) | refine uC ?_ | fail)
    all_goals first | (exfalso; omega) | (exact Fin.q Tryz.results17 (.cons (.agg rfl rfl ud49 rfl inf49 (us := [_, _, _, _]) rfl rfl) (.cons (.tmp rfl) .nil)) [])
   ·first | refine Cd.enter' Tryz.func17 rfl Tryz.ntmps17 rfl ?_ | refine Cio.enter' Tryz.func17 rfl Tryz.ntmps17 rfl qM ?_ | refine C.enter' Tryz.func17 rfl Tryz.ntmps17 rfl qM ?_
    repeat' (first | ((with_reducible refine kAL ?_); (first | (refine zkD 22 rfl ?_; refine uA ?_; (try refine AL.wk (Wk.nz 22 rfl (by exact .aggL (.cons (by exact .same _) (.cons (by exact .nlt) (.cons (by exact .nlt) (.cons (by exact .nlt) .nil)))))) ?_)) | refine uK (c1) ?_ | refine uA ?_)) | refine uC ?_ | fail)
    all_goals first | (exfalso; omega) | (exact Fin.q Tryz.results17 (.cons (.agg rfl rfl ud49 rfl inf49 (us := [_, _, _, _]) rfl rfl) (.cons (.tmp rfl) .nil)) [])
theorem putX_head {c : DConf} {x : DCells} {a : Int} {l : List Int} (h : putX c x = a :: l) : a = x.list.length := by
 unfold putX at h
 split at h
 ·simp at h; exact h.1.symm
 ·cases h
theorem rreadX_c (c : DConf) (l : List Int) (hs : c.start.length ≤ 1152921504606846976) (hU : okU l) (hl0 : l.length ≤ 1152921504606846976) : Cd Tryz.prog 18 [aCf c, fU l] (.tup [fCl (readX c l), bo (mayX c l)]) [] := by
 have c1 := rchk_c c hs
 have c2 := rsize_c c hs
 have g1 : (l.map tU).length = l.length := List.length_map _
 by_cases hA : chkC c = true ∧ c.kind ≠ 3 ∧ (l.length : Int) = sizeC c
 ·obtain ⟨h0, h1, h2⟩ := hA
  rw [h0] at c1
  have hsh := chkC_shaped h0
  have hb := hsh.h1 h1
  have ht0 := hsh.t0
  have ht1 := hsh.t1
  obtain ⟨n, hn⟩ : ∃ n : Nat, c.cap = n := ⟨c.cap.toNat, by omega⟩
  obtain ⟨t, ht⟩ : ∃ t : Nat, c.threads = t := ⟨c.threads.toNat, by omega⟩
  have hlen : l.length = 1 + n + t := by
   have h3 := h2
   rw [sizeC_X h0 h1, hn, ht] at h3
   omega
  have hl : l.length ≤ 1000000 := by omega
  obtain ⟨a0, ha0⟩ : ∃ a, l[0]? = some a := ⟨_, List.getElem?_eq_getElem (by omega)⟩
  have hb0 := okU_at hU ha0
  have hraw : rawX c l = ⟨c.cap, rdRow (l.drop 1) n a0, rdRs (l.drop (1 + n)) t⟩ := by unfold rawX; rw [headD_of ha0, hn, ht]; rfl
  have k1 : (rawX c l).list.length ≤ 1152921504606846976 := by
   rw [hraw]; have := rdRow_len (l.drop 1) n a0; show (rdRow _ _ _).length ≤ _; omega
  have k2 : (rawX c l).done.length ≤ 1152921504606846976 := by rw [hraw]; show (rdRs _ _).length ≤ _; simp [rdRs]; omega
  have hmay := mayX_yes h0 h1 h2
  by_cases hbig : a0 ≤ c.cap
  ·have cP := rputX_c c (rawX c l) hs k1 k2
   have hpl : (putX c (rawX c l)).length ≤ 1152921504606846976 := by
    cases hf : fitsX c (rawX c l)
    ·unfold putX; rw [hf]; exact Nat.zero_le _
    ·have := putX_len hf; omega
   have cE := sameU_c (putX c (rawX c l)) l hpl
   rw [hraw] at cP
   have hz : rdRow (l.drop 1) 0 a0 = [] := by simp [rdRow]
   have hz2 : rdRs (l.drop (1 + n)) 0 = [] := by simp [rdRs]
   first | refine Cd.enter' Tryz.func18 rfl Tryz.ntmps18 rfl ?_ | refine Cio.enter' Tryz.func18 rfl Tryz.ntmps18 rfl qM ?_ | refine C.enter' Tryz.func18 rfl Tryz.ntmps18 rfl qM ?_
   repeat' (first | refine uA ?_ | ((with_reducible refine kRG ?_); (first | refine uQ (c1) 0 ?_ | refine uQ (c2) 0 ?_ | refine uR ?_)) | refine uC ?_ | refine AW.drawU (id := 1) mixed 0 qR ?_ | fail)
   all_goals first | (exfalso; omega) | skip
   refine AW.wk (Wk.ownB 2 1 rfl rfl 3 1 (.push rfl rfl) rfl) ?_
   refine AW.loopP (fun (x : Nat × Nat × Nat) => x.1 ≤ n ∧ x.2.2 = (rdRow (l.drop 1) x.1 a0).length) (fun (x : Nat × Nat × Nat) => (pu (pu (pu (pu (pu (fun _ => .any) 1 (fU l)) 2 (.ptr 0 0)) 4 (.ptr 1 0)) 6 (.ptr 2 0)) 7 (i64 x.1))) (fun (x : Nat × Nat × Nat) => [.box 24 (cfCs c), .box 53 [i64 0, .nl, .nl], .box 53 [i64 c.cap, .sl 3 x.2.1 x.2.2, .nl], .row x.2.1 3 1 ((rdRow (l.drop 1) x.1 a0).map tI)]) (fun (x : Nat × Nat × Nat) => n - x.1) ((0, 0, 0)) ?_ ?_ ?_
   ·exact ⟨Nat.zero_le _, by rw [hz]; rfl⟩
   ·dsimp only
    rw [hz]
    exact Wk.cq 4
   ·rintro ⟨j, k, q⟩ ⟨h4, h5⟩
    dsimp only at h4 h5 ⊢
    have hR := rdRow_len (l.drop 1) j a0
    have hRt := rdRow_len l.tail j a0
    have h5t : q = (rdRow l.tail j a0).length := by rw [← List.drop_one]; exact h5
    by_cases hj : j < n
    ·obtain ⟨b, hb1⟩ : ∃ b, l[1 + j]? = some b := ⟨_, List.getElem?_eq_getElem (by omega)⟩
     have hb2 : (l.drop 1)[j]? = some b := by rw [List.getElem?_drop]; exact hb1
     have hbb := okU_at hU hb1
     by_cases hk : (j : Int) < a0
     ·have hsx := rdRow_succ (m := a0) hb2 hk
      have hb3 : l[Int.toNat (1 + (j : Int))]? = some b := by rw [show Int.toNat (1 + (j : Int)) = 1 + j by omega]; exact hb1
      clear hb1 hb2
      repeat' (first | refine uA ?_ | ((with_reducible refine kRG ?_); (first | refine R_lit (N := 4) rfl rfl 22 1 _ rfl ud22 inf3 (.cons rfl .nil) (els := [[_]]) rfl (by exact (rfl : _ = List.map tI [_])) rfl (Nat.ne_of_beq_eq_false rfl) (Nat.le_of_ble_eq_true rfl) (Nat.le_of_ble_eq_true rfl) rfl qN ?_ | refine uR ?_)) | refine uC ?_ | refine AW.drawU (id := 8) mixed 2 qR ?_ | fail)
      all_goals first | (exfalso; omega) | skip
      refine ⟨(j + 1, k + 1, q + 1), ⟨by dsimp only; omega, by dsimp only; rw [hsx, List.length_append, h5]; rfl⟩, by dsimp only; omega, ?_⟩
      rw [hsx]
      exact Wk.cq 4
     ·have hsx := rdRow_stop (l := l.drop 1) hk
      clear hb1 hb2
      repeat' (first | refine uA ?_ | refine uC ?_ | fail)
      all_goals first | (exfalso; omega) | skip
      refine ⟨(j + 1, k, q), ⟨by dsimp only; omega, by dsimp only; rw [hsx]; exact h5⟩, by dsimp only; omega, ?_⟩
      rw [hsx]
      exact Wk.cq 4
    ·obtain rfl : j = n := by omega
     refine AW.wk (Wk.freezeB 3 rfl 2 rfl (.cons (.same _) (.cons (.all (by first | rfl | (simp <;> fail) | (simp; omega))) (.cons (.same _) (.nil)))) rfl) ?_
     repeat' (first | refine uA ?_ | refine uC ?_ | fail)
     all_goals first | (exfalso; omega) | skip
     refine AW.wk (Wk.ownB 2 2 rfl rfl 42 4 (.push rfl rfl) rfl) ?_
     generalize rdRow (l.drop 1) j a0 = RR at *
     refine AW.loopP (fun (q : Nat) => q ≤ t) (fun (q : Nat) => (pu (pu (pu (pu (pu (fun _ => .any) 1 (fU l)) 2 (.ptr 0 0)) 4 (.ptr 1 0)) 6 (.ptr 2 0)) 8 (i64 q))) (fun (q : Nat) => [.box 24 (cfCs c), .box 53 [i64 0, .nl, .nl], .box 53 [i64 c.cap, .t (.lst (RR.map tI)), .sl 3 q q], .row q 42 4 ((rdRs (l.drop (1 + j)) q).map tR)]) (fun (q : Nat) => t - q) (0) ?_ ?_ ?_
     ·exact Nat.zero_le _
     ·rw [hz2]
      exact Wk.cq3 [0, 1, 2, 4]
     ·intro q h6
      have hL3 : (rdRs (l.drop (1 + j)) q).length = q := by simp [rdRs]; omega
      by_cases hq : q < t
      ·obtain ⟨a, ha⟩ : ∃ a, l[1 + j + q]? = some a := ⟨_, List.getElem?_eq_getElem (by omega)⟩
       have ha2 : (l.drop (1 + j))[q]? = some a := by rw [List.getElem?_drop]; exact ha
       have hba := okU_at hU ha
       have cR := rread_c a hba
       have hsx : rdRs (l.drop (1 + j)) (q + 1) = rdRs (l.drop (1 + j)) q ++ [readR a] := by unfold rdRs; rw [List.take_add_one, ha2]; simp
       have hb3 : l[Int.toNat (1 + c.cap + (q : Int))]? = some a := by rw [show Int.toNat (1 + c.cap + (q : Int)) = 1 + j + q by omega]; exact ha
       clear ha ha2 ha0
       repeat' (first | refine uA ?_ | ((with_reducible refine kRG ?_); (first | refine uQ (cR) 0 ?_ | refine R_lit (N := 4) rfl rfl 47 1 _ rfl ud47 inf42 (.cons rfl .nil) (els := [[_, _, _, _]]) rfl (by exact (rfl : _ = List.map tR [⟨_, _, _, _⟩])) rfl (Nat.ne_of_beq_eq_false rfl) (Nat.le_of_ble_eq_true rfl) (Nat.le_of_ble_eq_true rfl) rfl qN ?_ | refine uR ?_)) | refine uC ?_ | refine AW.drawU (id := 12) mixed 2 qR ?_ | fail)
       all_goals first | (exfalso; omega) | skip
       refine ⟨q + 1, by omega, by omega, ?_⟩
       rw [hsx]
       exact Wk.cq 4
      ·obtain rfl : q = t := by omega
       refine AW.wk (Wk.freezeB 3 rfl 2 rfl (.cons (.same _) (.cons (.same _) (.cons (.all (by first | rfl | (simp <;> fail) | (simp; omega))) (.nil)))) rfl) ?_
       by_cases e : putX c (rawX c l) = l
       ·rw [decide_eq_true e] at cE hmay
        rw [rawX_of hmay, hmay, hraw]
        rw [hraw] at cE
        repeat' (first | ((with_reducible refine kAL ?_); (first | refine uK (cP) ?_ | refine uK (cE) ?_ | refine uA ?_)) | refine uC ?_ | fail)
        all_goals first | (exfalso; omega) | (exact Fin.q Tryz.results18 (.cons (.agg rfl rfl ud53 rfl inf53 (us := [_, _, _]) rfl rfl) (.cons (.tmp rfl) .nil)) [])
       ·rw [decide_eq_false e] at cE hmay
        rw [noX_of hmay, hmay]
        rw [hraw] at cE
        repeat' (first | ((with_reducible refine kAL ?_); (first | (refine zkD 87 rfl ?_; refine uA ?_; (try refine AL.wk (Wk.nz 87 rfl (by exact .aggL (.cons (by exact .same _) (.cons (by exact .nlt) (.cons (by exact .nlt) .nil))))) ?_)) | refine uK (cP) ?_ | refine uK (cE) ?_ | refine uA ?_)) | refine uC ?_ | fail)
        all_goals first | (exfalso; omega) | (exact Fin.q Tryz.results18 (.cons (.agg rfl rfl ud53 rfl inf53 (us := [_, _, _]) rfl rfl) (.cons (.tmp rfl) .nil)) [])
  ·have hne : putX c (rawX c l) ≠ l := fun e => by
    obtain ⟨b, L, hL⟩ := List.exists_cons_of_length_pos (show 0 < l.length by omega)
    rw [hL] at ha0
    simp at ha0
    have := putX_head (e.trans hL)
    have h7 := rdRow_len (l.drop 1) n a0
    rw [hraw] at this
    have h8 : (rdRow (l.drop 1) n a0).length ≤ n := h7
    have h9 : b = ((rdRow (l.drop 1) n a0).length : Int) := this
    omega
   rw [decide_eq_false hne] at hmay
   rw [noX_of hmay, hmay]
   first | refine Cd.enter' Tryz.func18 rfl Tryz.ntmps18 rfl ?_ | refine Cio.enter' Tryz.func18 rfl Tryz.ntmps18 rfl qM ?_ | refine C.enter' Tryz.func18 rfl Tryz.ntmps18 rfl qM ?_
   repeat' (first | ((with_reducible refine kAL ?_); (first | (refine zkD 33 rfl ?_; refine uA ?_; (try refine AL.wk (Wk.nz 33 rfl (by exact .aggL (.cons (by exact .same _) (.cons (by exact .nlt) (.cons (by exact .nlt) .nil))))) ?_)) | refine uA ?_)) | ((with_reducible refine kRG ?_); (first | refine uQ (c1) 0 ?_ | refine uQ (c2) 0 ?_ | refine uR ?_)) | refine uC ?_ | refine AW.drawU (id := 1) mixed 0 qR ?_ | fail)
   all_goals first | (exfalso; omega) | (exact Fin.q Tryz.results18 (.cons (.agg rfl rfl ud53 rfl inf53 (us := [_, _, _]) rfl rfl) (.cons (.tmp rfl) .nil)) [])
 ·have hmay := mayX_no hA
  rw [noX_of hmay, hmay]
  cases h0 : chkC c
  ·rw [h0] at c1
   first | refine Cd.enter' Tryz.func18 rfl Tryz.ntmps18 rfl ?_ | refine Cio.enter' Tryz.func18 rfl Tryz.ntmps18 rfl qM ?_ | refine C.enter' Tryz.func18 rfl Tryz.ntmps18 rfl qM ?_
   repeat' (first | ((with_reducible refine kAL ?_); (first | (refine zkD 33 rfl ?_; refine uA ?_; (try refine AL.wk (Wk.nz 33 rfl (by exact .aggL (.cons (by exact .same _) (.cons (by exact .nlt) (.cons (by exact .nlt) .nil))))) ?_)) | refine uA ?_)) | ((with_reducible refine kRG ?_); (first | refine uQ (c1) 0 ?_ | refine uR ?_)) | refine uC ?_ | refine AW.drawU (id := 1) mixed 0 qR ?_ | fail)
   all_goals first | (exfalso; omega) | (exact Fin.q Tryz.results18 (.cons (.agg rfl rfl ud53 rfl inf53 (us := [_, _, _]) rfl rfl) (.cons (.tmp rfl) .nil)) [])
  ·rw [h0] at c1
   by_cases k : c.kind = 3
   ·first | refine Cd.enter' Tryz.func18 rfl Tryz.ntmps18 rfl ?_ | refine Cio.enter' Tryz.func18 rfl Tryz.ntmps18 rfl qM ?_ | refine C.enter' Tryz.func18 rfl Tryz.ntmps18 rfl qM ?_
    repeat' (first | ((with_reducible refine kAL ?_); (first | (refine zkD 33 rfl ?_; refine uA ?_; (try refine AL.wk (Wk.nz 33 rfl (by exact .aggL (.cons (by exact .same _) (.cons (by exact .nlt) (.cons (by exact .nlt) .nil))))) ?_)) | refine uA ?_)) | ((with_reducible refine kRG ?_); (first | refine uQ (c1) 0 ?_ | refine uR ?_)) | refine uC ?_ | refine AW.drawU (id := 1) mixed 0 qR ?_ | fail)
    all_goals first | (exfalso; omega) | (exact Fin.q Tryz.results18 (.cons (.agg rfl rfl ud53 rfl inf53 (us := [_, _, _]) rfl rfl) (.cons (.tmp rfl) .nil)) [])
   ·have e : ¬ (l.length : Int) = sizeC c := fun e => hA ⟨h0, k, e⟩
    first | refine Cd.enter' Tryz.func18 rfl Tryz.ntmps18 rfl ?_ | refine Cio.enter' Tryz.func18 rfl Tryz.ntmps18 rfl qM ?_ | refine C.enter' Tryz.func18 rfl Tryz.ntmps18 rfl qM ?_
    repeat' (first | ((with_reducible refine kAL ?_); (first | (refine zkD 33 rfl ?_; refine uA ?_; (try refine AL.wk (Wk.nz 33 rfl (by exact .aggL (.cons (by exact .same _) (.cons (by exact .nlt) (.cons (by exact .nlt) .nil))))) ?_)) | refine uA ?_)) | ((with_reducible refine kRG ?_); (first | refine uQ (c1) 0 ?_ | refine uQ (c2) 0 ?_ | refine uR ?_)) | refine uC ?_ | refine AW.drawU (id := 1) mixed 0 qR ?_ | fail)
    all_goals first | (exfalso; omega) | (exact Fin.q Tryz.results18 (.cons (.agg rfl rfl ud53 rfl inf53 (us := [_, _, _]) rfl rfl) (.cons (.tmp rfl) .nil)) [])
end
section
attribute [local irreducible] AL AW RG Fin C Cd Cio thenQ blockQ retQ
set_option maxRecDepth 100000
theorem rstart_o (c : DConf) (hs : c.start.length ≤ 1152921504606846976) : Cd Tryz.prog 12 [fCf c] (fU (startO c)) [] := by
 have c1 := rchk_c c hs
 have c2 := rsF_c c hs
 have c3 := rputH_c c (startH c) hs (startH_ok c).toH
 have c5 := rsize_c c hs
 unfold startO
 generalize startH c = h at *
 cases k : chkC c
 ·rw [k] at c1
  rw [if_neg (by simp)] at c1 ⊢
  refine Cd.enter' Tryz.func12 rfl Tryz.ntmps12 rfl ?_
  repeat' (first | ((with_reducible refine kAL ?_); (first | (refine zkD 2 rfl ?_; refine uA ?_; (try refine AL.wk (Wk.nz 2 rfl (by exact .nlt)) ?_)) | refine uK (c1) ?_ | refine uA ?_)) | refine uC ?_ | fail)
  all_goals first | (exfalso; omega) | (exact Fin.q Tryz.results12 (.cons (.tmp rfl) .nil) [])
 ·rw [k, if_pos rfl] at c1
  rw [if_pos rfl]
  by_cases k3 : c.kind = 3
  ·rw [if_pos k3]
   generalize putH c h = w at *
   clear c5
   obtain ⟨a0, a1, a2, a3, a4, a5, a6, a7, a8, a9, a10⟩ := c
   dsimp only [fCf, aCf] at *
   subst k3
   refine Cd.enter' Tryz.func12 rfl Tryz.ntmps12 rfl ?_
   repeat' (first | ((with_reducible refine kAL ?_); (first | refine uK (c1) ?_ | refine uA ?_)) | ((with_reducible refine kRG ?_); (first | refine uQ (c2) 0 ?_ | refine uQ (c3) 0 ?_ | refine uR ?_)) | refine uC ?_ | refine AW.drawU (id := 4) mixed 4 qR ?_ | fail)
   all_goals first | (exfalso; omega) | (exact Fin.q Tryz.results12 (.cons (.tmp rfl) .nil) [])
  ·rw [if_neg k3, putX_new k k3]
   have hz : 0 ≤ sizeC c ∧ sizeC c ≤ 1000 := by
    have hs := chkC_shaped k
    have hb := hs.h1 k3
    have := hs.t0
    have := hs.t1
    rw [sizeC_X k k3]; omega
   obtain ⟨n, hn⟩ : ∃ n : Nat, sizeC c = n := ⟨(sizeC c).toNat, by omega⟩
   rw [hn] at c5 hz ⊢
   rw [Int.toNat_natCast]
   have h0 : Cd Tryz.prog 12 [fCf c] (.sl 0 0 (List.replicate n (0 : Int)).length) [.row 0 31 1 ((List.replicate n (0 : Int)).map tU)] := by
    rw [List.length_replicate]
    clear c2 c3
    obtain ⟨a0, a1, a2, a3, a4, a5, a6, a7, a8, a9, a10⟩ := c
    dsimp only [fCf, aCf] at *
    refine Cd.enter' Tryz.func12 rfl Tryz.ntmps12 rfl ?_
    repeat' (first | ((with_reducible refine kAL ?_); (first | refine uK (c1) ?_ | refine uK (c5) ?_ | refine A_make rfl rfl 25 _ _ rfl ud25 inf31 rfl (zs := [(.v (.int .u64 0))]) rfl rfl rfl n (by rfl) (by rfl) qB qB (by exact rep_map (f := tU) (x := _)) (.push qL qN) ?_ | refine uA ?_)) | refine uC ?_ | fail)
    all_goals first | (exfalso; omega) | (exact Fin.q Tryz.results12 (.cons (.tmp rfl) .nil) [1])
   generalize List.replicate n (0 : Int) = w at *
   have h0' := Cd.frz1 h0 0 rfl (by repeat' (first | exact FzL.nil | apply FzL.cons | exact FzR.nlt | exact FzR.all (by first | rfl | (simp <;> fail) | (simp; omega)) | exact FzR.sl (by first | exact Nat.le_refl _ | (simp <;> fail) | (simp; omega)) | apply FzR.aggL | exact FzR.same _)) rfl; exact Cd.drop h0' rfl
theorem rapply_o (c : DConf) (l : List Int) (t n : Int) (q : DReq) (hs : c.start.length ≤ 1152921504606846976) (hU : okU l) (hl : l.length ≤ 17592186044415) (hq : sRq q) (hq0 : q.cases.length ≤ 5864062014805) :
  Cd Tryz.prog 8 [fCf c, fU l, i64 t, i64 n, aRq q] (fU (applyO c l t n q)) [] := by
 have h1 : (l.map tU).length = l.length := List.length_map _
 have c0 := rFits_c q (by omega)
 unfold applyO mayO
 by_cases m1 : 0 ≤ t ∧ t < c.threads
 ·by_cases m2 : 0 ≤ n ∧ n ≤ 1048575
  ·rw [decide_eq_true m1, decide_eq_true m2, Bool.true_and, Bool.true_and]
   cases m3 : fitQ q
   ·rw [m3] at c0
    rw [if_neg (by simp)]
    dsimp only [fCf, aRq] at *
    refine Cd.enter' Tryz.func8 rfl Tryz.ntmps8 rfl ?_
    repeat' (first | ((with_reducible refine kAL ?_); (first | (refine zkD 11 rfl ?_; refine uA ?_; (try refine AL.wk (Wk.freeze 2 rfl 11 rfl (by first | exact .all (by first | (simp <;> fail) | fail) | fail) qN) ?_)) | refine uK (c0) ?_ | refine uA ?_)) | refine uC ?_ | fail)
    all_goals first | (exfalso; omega) | (exact Fin.q Tryz.results8 (.cons (.tmp rfl) .nil) [])
   ·rw [m3] at c0
    rw [if_pos rfl]
    by_cases k3 : c.kind = 3
    ·rw [if_pos k3]
     have c2 := rreadH_c c l hs hU (by omega)
     cases hm : mayH c l
     ·rw [hm] at c2
      rw [if_neg (by simp)]
      obtain ⟨a0, a1, a2, a3, a4, a5, a6, a7, a8, a9, a10⟩ := c
      dsimp only [fCf, aCf, aRq] at *
      subst k3
      refine Cd.enter' Tryz.func8 rfl Tryz.ntmps8 rfl ?_
      repeat' (first | ((with_reducible refine kAL ?_); (first | (refine zkD 11 rfl ?_; refine uA ?_; (try refine AL.wk (Wk.freeze 2 rfl 11 rfl (by first | exact .all (by first | (simp <;> fail) | fail) | fail) qN) ?_)) | refine uK (c0) ?_ | refine uK (c2) ?_ | refine uA ?_)) | refine uC ?_ | fail)
      all_goals first | (exfalso; omega) | (exact Fin.q Tryz.results8 (.cons (.tmp rfl) .nil) [])
     ·obtain ⟨f, -⟩ := mayH_fits hm
      rw [hm] at c2
      rw [if_pos rfl]
      generalize readH c l = h at *
      have ok := (fitsH_sizes f).1
      have c3 := raF_c c h t n q (fitsH_okQ f hq hq0) ok
      have c4 := rputH_c c (applyH c h t n q) hs (fitsH_sizes (fitsH_apply f m3 m2)).1.toH
      generalize applyH c h t n q = g at *
      generalize putH c g = w at *
      obtain ⟨a0, a1, a2, a3, a4, a5, a6, a7, a8, a9, a10⟩ := c
      dsimp only [fCf, aCf, aRq] at *
      subst k3
      refine Cd.enter' Tryz.func8 rfl Tryz.ntmps8 rfl ?_
      repeat' (first | ((with_reducible refine kAL ?_); (first | (refine zkD 11 rfl ?_; refine uA ?_; (try refine AL.wk (Wk.freeze 2 rfl 11 rfl (by first | exact .all (by first | (simp <;> fail) | fail) | fail) qN) ?_)) | refine uK (c0) ?_ | refine uK (c2) ?_ | refine uA ?_)) | ((with_reducible refine kRG ?_); (first | refine uQ (c3) 0 ?_ | refine uQ (c4) 0 ?_ | refine uR ?_)) | refine uC ?_ | refine AW.drawU (id := 8) mixed 4 qR ?_ | fail)
      all_goals first | (exfalso; omega) | (exact Fin.q Tryz.results8 (.cons (.tmp rfl) .nil) [])
    ·rw [if_neg k3]
     have c2 := rreadX_c c l hs hU (by omega)
     cases hm : mayX c l
     ·rw [hm] at c2
      rw [if_neg (by simp)]
      obtain ⟨a0, a1, a2, a3, a4, a5, a6, a7, a8, a9, a10⟩ := c
      dsimp only [fCf, aCf, aRq] at *
      refine Cd.enter' Tryz.func8 rfl Tryz.ntmps8 rfl ?_
      repeat' (first | ((with_reducible refine kAL ?_); (first | (refine zkD 11 rfl ?_; refine uA ?_; (try refine AL.wk (Wk.freeze 2 rfl 11 rfl (by first | exact .all (by first | (simp <;> fail) | fail) | fail) qN) ?_)) | refine uK (c0) ?_ | refine uK (c2) ?_ | refine uA ?_)) | refine uC ?_ | fail)
      all_goals first | (exfalso; omega) | (exact Fin.q Tryz.results8 (.cons (.tmp rfl) .nil) [])
     ·obtain ⟨f, -⟩ := mayX_fits hm
      rw [hm] at c2
      rw [if_pos rfl]
      generalize readX c l = x at *
      obtain ⟨s1, s2⟩ := fitsX_sizes f
      have f2 : fitsX c (appX (decide (c.kind = 2)) x t n q) = true := fitsX_apply f m3 m2
      have c3 := ref_F (decide (c.kind = 2)) x t n q (by omega) (by omega)
      have c4 := rputX_c c (appX (decide (c.kind = 2)) x t n q) hs (by have := (fitsX_sizes f2).1; omega) (by have := (fitsX_sizes f2).2; omega)
      generalize appX (decide (c.kind = 2)) x t n q = g at *
      generalize putX c g = w at *
      by_cases k2 : c.kind = 2
      ·rw [decide_eq_true k2] at c3
       obtain ⟨a0, a1, a2, a3, a4, a5, a6, a7, a8, a9, a10⟩ := c
       dsimp only [fCf, aCf, aRq] at *
       subst k2
       refine Cd.enter' Tryz.func8 rfl Tryz.ntmps8 rfl ?_
       repeat' (first | ((with_reducible refine kAL ?_); (first | (refine zkD 11 rfl ?_; refine uA ?_; (try refine AL.wk (Wk.freeze 2 rfl 11 rfl (by first | exact .all (by first | (simp <;> fail) | fail) | fail) qN) ?_)) | refine uK (c0) ?_ | refine uK (c2) ?_ | refine uA ?_)) | ((with_reducible refine kRG ?_); (first | refine uQ (c3) 0 ?_ | refine uQ (c4) 0 ?_ | refine uR ?_)) | refine uC ?_ | refine AW.drawU (id := 12) mixed 4 qR ?_ | fail)
       all_goals first | (exfalso; omega) | (exact Fin.q Tryz.results8 (.cons (.tmp rfl) .nil) [])
      ·rw [decide_eq_false k2] at c3
       obtain ⟨a0, a1, a2, a3, a4, a5, a6, a7, a8, a9, a10⟩ := c
       dsimp only [fCf, aCf, aRq] at *
       refine Cd.enter' Tryz.func8 rfl Tryz.ntmps8 rfl ?_
       repeat' (first | ((with_reducible refine kAL ?_); (first | (refine zkD 11 rfl ?_; refine uA ?_; (try refine AL.wk (Wk.freeze 2 rfl 11 rfl (by first | exact .all (by first | (simp <;> fail) | fail) | fail) qN) ?_)) | refine uK (c0) ?_ | refine uK (c2) ?_ | refine uA ?_)) | ((with_reducible refine kRG ?_); (first | refine uQ (c3) 0 ?_ | refine uQ (c4) 0 ?_ | refine uR ?_)) | refine uC ?_ | refine AW.drawU (id := 12) mixed 4 qR ?_ | fail)
       all_goals first | (exfalso; omega) | (exact Fin.q Tryz.results8 (.cons (.tmp rfl) .nil) [])
  ·rw [decide_eq_false m2, Bool.and_false, Bool.false_and, if_neg (by simp)]
   dsimp only [fCf, aRq] at *
   by_cases n0 : 0 ≤ n
   all_goals
    refine Cd.enter' Tryz.func8 rfl Tryz.ntmps8 rfl ?_
    repeat' (first | ((with_reducible refine kAL ?_); (first | (refine zkD 11 rfl ?_; refine uA ?_; (try refine AL.wk (Wk.freeze 2 rfl 11 rfl (by first | exact .all (by first | (simp <;> fail) | fail) | fail) qN) ?_)) | refine uA ?_)) | refine uC ?_ | fail)
    all_goals first | (exfalso; omega) | (exact Fin.q Tryz.results8 (.cons (.tmp rfl) .nil) [])
 ·rw [decide_eq_false m1, Bool.false_and, Bool.false_and, if_neg (by simp)]
  dsimp only [fCf, aRq] at *
  by_cases t0 : 0 ≤ t
  all_goals
   refine Cd.enter' Tryz.func8 rfl Tryz.ntmps8 rfl ?_
   repeat' (first | ((with_reducible refine kAL ?_); (first | (refine zkD 11 rfl ?_; refine uA ?_; (try refine AL.wk (Wk.freeze 2 rfl 11 rfl (by first | exact .all (by first | (simp <;> fail) | fail) | fail) qN) ?_)) | refine uA ?_)) | refine uC ?_ | fail)
   all_goals first | (exfalso; omega) | (exact Fin.q Tryz.results8 (.cons (.tmp rfl) .nil) [])
def allO (c : DConf) (l : List Int) (ops : List DOp) : Nat → List Int
 | 0 => l
 | k + 1 => applyO c (allO c l ops k) (ops.getD k default).thread (ops.getD k default).seq (ops.getD k default).req
theorem allO_next {c : DConf} {l : List Int} {ops : List DOp} {k : Nat} {x : DOp} (hx : ops[k]? = some x) : allO c l ops (k + 1) = applyO c (allO c l ops k) x.thread x.seq x.req := by
 rw [allO, getD_of hx]
theorem sizeC_b (c : DConf) : sizeC c ≤ 1000 := by
 cases k : chkC c
 ·unfold sizeC; rw [if_neg (by simp [k])]; decide
 ·have hs := chkC_shaped k
  have := hs.t1
  by_cases k3 : c.kind = 3
  ·have hb := hs.h3 k3
   rw [sizeC_H k k3]
   have h2 : c.chans * (1 + c.cap) ≤ 8 * 9 := Int.mul_le_mul hb.2.1 (by omega) (by omega) (by decide)
   omega
  ·have hb := hs.h1 k3
   rw [sizeC_X k k3]; omega
theorem applyO_len {c : DConf} {l : List Int} {b : Nat} (hb : 1000 ≤ b) (h : l.length ≤ b) (t n : Int) (q : DReq) : (applyO c l t n q).length ≤ b := by
 have hz := sizeC_b c
 have hH : ∀ g, (putH c g).length ≤ b := fun g => by
  cases f : fitsH c g
  ·unfold putH; rw [f]; exact Nat.zero_le _
  ·have := putH_len f; omega
 have hX : ∀ g, (putX c g).length ≤ b := fun g => by
  cases f : fitsX c g
  ·unfold putX; rw [f]; exact Nat.zero_le _
  ·have := putX_len f; omega
 unfold applyO
 split
 ·split
  ·split
   ·exact hH _
   ·exact h
  ·split
   ·exact hX _
   ·exact h
 ·exact h
theorem allO_ok {c : DConf} {l : List Int} (ops : List DOp) {b : Nat} (hb : 1000 ≤ b) (h : l.length ≤ b) (hU : okU l) : ∀ k, (allO c l ops k).length ≤ b ∧ okU (allO c l ops k)
 | 0 => ⟨h, hU⟩
 | k + 1 => by
  obtain ⟨h1, h2⟩ := allO_ok ops hb h hU k
  exact ⟨applyO_len hb h1 _ _ _, applyO_U h2 _ _ _⟩
theorem all_o (c : DConf) (l : List Int) (ops : List DOp) (hs : c.start.length ≤ 1152921504606846976) (hU : okU l) (hl : l.length ≤ 17592186044415) (ho : ops.length ≤ 1152921504606846976) (hq : ∀ x ∈ ops, sRq x.req) (hq0 : ∀ x ∈ ops, x.req.cases.length ≤ 5864062014805) :
  Cd Tryz.prog 22 [fCf c, fU l, .ln (ops.map tOp)] (fU (allO c l ops ops.length)) [] := by
 have h1 : (ops.map tOp).length = ops.length := List.length_map _
 have c1 := cloneU_c l hl
 have hok := allO_ok (c := c) ops (by decide) hl hU
 have hA := fun k t n q h => apply_o c (allO c l ops k) t n q hs (hok k).2 (hok k).1 h
 have h0 : allO c l ops 0 = l := rfl
 have hN := @allO_next c l ops
 generalize allO c l ops = L at *
 dsimp only [fCf, aCf] at *
 first | refine Cd.enter' Tryz.func22 rfl Tryz.ntmps22 rfl ?_ | refine Cio.enter' Tryz.func22 rfl Tryz.ntmps22 rfl qM ?_ | refine C.enter' Tryz.func22 rfl Tryz.ntmps22 rfl qM ?_
 repeat' (first | ((with_reducible refine kAL ?_); (first | refine uK (c1) ?_ | refine uA ?_)) | refine uC ?_ | fail)
 all_goals first | (exfalso; omega) | skip
 refine AW.loopP (fun (k : Nat) => k ≤ ops.length) (fun (k : Nat) => (pu (pu (pu (pu (pu (fun _ => .any) 3 (.ptr 0 0)) 7 (.t (.lst ((L k).map tU)))) 12 (.ln (ops.map tOp))) 13 (i64 (ops.map tOp).length)) 14 (i64 k))) (fun (k : Nat) => [.box 24 [i64 c.kind, i64 c.threads, i64 c.chans, i64 c.cap, i64 c.nodes, i64 c.retire, i64 c.patience, i64 c.tags, i64 c.seqs, i64 c.gens, .t (.lst (c.start.map tI))]]) (fun (k : Nat) => ops.length - k) (0) ?_ ?_ ?_
 ·exact Nat.zero_le _
 ·rw [h0]
  exact Wk.cq 1
 ·intro k hk
  by_cases hi : k < ops.length
  ·obtain ⟨x, hx⟩ : ∃ x, ops[k]? = some x := ⟨_, List.getElem?_eq_getElem hi⟩
   have hm := List.mem_of_getElem? hx
   have cA := hA k x.thread x.seq x.req (hq x hm) (hq0 x hm)
   have hn := hN hx
   rw [← hn] at cA
   obtain ⟨t, s, p, ⟨qk, qa, qv, qd, cs⟩⟩ := x
   dsimp only [aRq] at cA
   repeat' (first | ((with_reducible refine kAL ?_); (first | refine uK (cA) ?_ | refine uA ?_)) | refine uC ?_ | fail)
   all_goals first | (exfalso; omega) | skip
   refine ⟨k + 1, by omega, by omega, ?_⟩
   exact Wk.cq 1
  ·obtain rfl : k = ops.length := by omega
   repeat' (first | refine uA ?_ | refine uC ?_ | fail)
   all_goals first | (exfalso; omega) | (exact Fin.q Tryz.results22 (.cons (.tmp rfl) .nil) [])
theorem rall_o (c : DConf) (l : List Int) (ops : List DOp) (hs : c.start.length ≤ 1152921504606846976) (hU : okU l) (hl : l.length ≤ 17592186044415) (ho : ops.length ≤ 1152921504606846976) (hq : ∀ x ∈ ops, sRq x.req) (hq0 : ∀ x ∈ ops, x.req.cases.length ≤ 5864062014805) :
  Cd Tryz.prog 23 [fCf c, fU l, .ln (ops.map tOp)] (fU (allO c l ops ops.length)) [] := by
 have h1 : (ops.map tOp).length = ops.length := List.length_map _
 have h2 : (l.map tU).length = l.length := List.length_map _
 have hok := allO_ok (c := c) ops (by decide) hl hU
 have hA := fun k t n q h => rapply_o c (allO c l ops k) t n q hs (hok k).2 (hok k).1 h
 have h0 : allO c l ops 0 = l := rfl
 have hN := @allO_next c l ops
 generalize allO c l ops = L at *
 dsimp only [fCf, aCf] at *
 first | refine Cd.enter' Tryz.func23 rfl Tryz.ntmps23 rfl ?_ | refine Cio.enter' Tryz.func23 rfl Tryz.ntmps23 rfl qM ?_ | refine C.enter' Tryz.func23 rfl Tryz.ntmps23 rfl qM ?_
 repeat' (first | ((with_reducible refine kAL ?_); (first | (refine zkD 7 rfl ?_; refine uA ?_; (try refine AL.wk (Wk.freeze 1 rfl 7 rfl (by first | exact .all (by first | (simp <;> fail) | fail) | fail) qN) ?_)) | refine uA ?_)) | refine uC ?_ | fail)
 all_goals first | (exfalso; omega) | skip
 refine AW.loopP (fun (k : Nat) => k ≤ ops.length) (fun (k : Nat) => (pu (pu (pu (pu (pu (fun _ => .any) 3 (.ptr 0 0)) 7 (.t (.lst ((L k).map tU)))) 13 (.ln (ops.map tOp))) 14 (i64 (ops.map tOp).length)) 15 (i64 k))) (fun (k : Nat) => [.box 24 [i64 c.kind, i64 c.threads, i64 c.chans, i64 c.cap, i64 c.nodes, i64 c.retire, i64 c.patience, i64 c.tags, i64 c.seqs, i64 c.gens, .t (.lst (c.start.map tI))]]) (fun (k : Nat) => ops.length - k) (0) ?_ ?_ ?_
 ·exact Nat.zero_le _
 ·rw [h0]
  exact Wk.cq 1
 ·intro k hk
  by_cases hi : k < ops.length
  ·obtain ⟨x, hx⟩ : ∃ x, ops[k]? = some x := ⟨_, List.getElem?_eq_getElem hi⟩
   have hm := List.mem_of_getElem? hx
   have cA := hA k x.thread x.seq x.req (hq x hm) (hq0 x hm)
   have hn := hN hx
   rw [← hn] at cA
   obtain ⟨t, s, p, ⟨qk, qa, qv, qd, cs⟩⟩ := x
   dsimp only [aRq] at cA
   repeat' (first | ((with_reducible refine kAL ?_); (first | refine uK (cA) ?_ | refine uA ?_)) | refine uC ?_ | fail)
   all_goals first | (exfalso; omega) | skip
   refine ⟨k + 1, by omega, by omega, ?_⟩
   exact Wk.cq 1
  ·obtain rfl : k = ops.length := by omega
   repeat' (first | refine uA ?_ | refine uC ?_ | fail)
   all_goals first | (exfalso; omega) | (exact Fin.q Tryz.results23 (.cons (.tmp rfl) .nil) [])
end
section
attribute [local irreducible] AL AW RG Fin C Cd Cio thenQ blockQ retQ
set_option maxRecDepth 100000
abbrev aOp (x : DOp) : AV := .agg [i64 x.thread, i64 x.seq, i64 x.phase, i64 x.req.kind, i64 x.req.arg, i64 x.req.value, bo x.req.dflt, .t (.lst (x.req.cases.map tCs))]
theorem reqS_c (k a v : Int) (d : Bool) (cs : List DCase) (hl : cs.length ≤ 1152921504606846976) :
  Cd Tryz.prog 44 [.agg [i64 k, i64 a, i64 v, bo d, .ln (cs.map tCs)], .agg [i64 k, i64 a, i64 v, bo d, .ln (cs.map tCs)]] (bo true) [] := by
 have cC := cases_c cs cs hl
 rw [decide_eq_true rfl] at cC
 cases d
 all_goals
  refine Cd.enter' Tryz.func44 rfl Tryz.ntmps44 rfl ?_
  repeat' (first | ((with_reducible refine kAL ?_); (first | refine uK (cC) ?_ | refine uA ?_)) | refine uC ?_ | fail)
  all_goals first | (exfalso; omega) | (exact Fin.q Tryz.results44 (.cons (.tmp rfl) .nil) [])
theorem opsS_c (a : List DOp) (ha : a.length ≤ 1152921504606846976) (hc : ∀ x ∈ a, x.req.cases.length ≤ 1152921504606846976) : Cd Tryz.prog 19 [.ln (a.map tOp), .ln (a.map tOp)] (bo true) [] := by
 have h1 : (a.map tOp).length = a.length := List.length_map _
 refine Cd.enter' Tryz.func19 rfl Tryz.ntmps19 rfl ?_
 repeat' (first | refine uA ?_ | refine uC ?_ | fail)
 all_goals first | (exfalso; omega) | skip
 refine AW.loopP (fun (i : Nat) => i ≤ a.length) (fun (i : Nat) => (pu (pu (pu (pu (fun _ => .any) 0 (.ln (a.map tOp))) 1 (.ln (a.map tOp))) 12 (i64 (a.map tOp).length)) 13 (i64 i))) (fun (i : Nat) => []) (fun (i : Nat) => a.length - i) (0) ?_ ?_ ?_
 ·exact Nat.zero_le _
 ·exact Wk.cq 0
 ·intro i h2
  by_cases hi : i < a.length
  ·obtain ⟨x, hx⟩ : ∃ x, a[i]? = some x := ⟨_, List.getElem?_eq_getElem hi⟩
   have cR := reqS_c x.req.kind x.req.arg x.req.value x.req.dflt x.req.cases (hc x (List.mem_of_getElem? hx))
   obtain ⟨t, s, p, ⟨k, ar, v, d, cs⟩⟩ := x
   repeat' (first | refine uA ?_ | ((with_reducible refine kRG ?_); (first | refine uQ (cR) 0 ?_ | refine uR ?_)) | refine uC ?_ | refine AW.drawU (id := 6) mixed 2 qR ?_ | fail)
   all_goals first | (exfalso; omega) | skip
   refine ⟨i + 1, by omega, by omega, ?_⟩
   exact Wk.cq 0
  ·obtain rfl : i = a.length := by omega
   repeat' (first | refine uA ?_ | refine uC ?_ | fail)
   all_goals first | (exfalso; omega) | (exact Fin.q Tryz.results19 (.cons (.tmp rfl) .nil) [])
end
end Go.Proofs.YtbpgopomninedaaGreat
