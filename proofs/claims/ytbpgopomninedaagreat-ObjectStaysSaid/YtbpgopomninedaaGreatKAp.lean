/- Joined: XTFits, XTPut, XTReader, XTPutU. -/
import Derived.Test.YtbpgopomninedaaGreatKAg
import Derived.Test.YtbpgopomninedaaGreatKAo
import Derived.Test.YtbpgopomninedaaGreatKAd
namespace Go.Proofs.YtbpgopomninedaaGreat
open Go.RowKit
set_option linter.unusedVariables false
set_option linter.unusedSimpArgs false
set_option linter.unnecessarySimpa false
set_option maxRecDepth 100000
set_option maxHeartbeats 64000000
section
attribute [local irreducible] AL AW RG Fin C Cd Cio thenQ blockQ retQ
set_option maxRecDepth 100000
theorem fitI_in (n M m : Int) (h : M = m + 1) : fitI n M = inI n 0 m := by unfold fitI inI; exact decide_eq_decide.2 (by omega)
theorem values1_c (n : Int) : Cd Tryz.prog 152 [i64 n] (bo (!inI n 0 4294967295)) [] := by
 have c1 := in_c n 0 4294967295
 generalize inI n 0 4294967295 = b at c1
 refine Cd.enter' Tryz.func152 rfl Tryz.ntmps152 rfl ?_
 repeat' (first | ((with_reducible refine kAL ?_); (first | refine uK (c1) ?_ | refine uA ?_)) | refine uC ?_ | fail)
 all_goals first | (exfalso; omega) | (exact Fin.q Tryz.results152 (.cons (.tmp rfl) .nil) [])
theorem done1_c (r : Rst) : Cd Tryz.prog 130 [aR r] (bo (!goodR r)) [] := by
 have c1 := pgood_c r
 generalize goodR r = b at c1
 refine Cd.enter' Tryz.func130 rfl Tryz.ntmps130 rfl ?_
 repeat' (first | ((with_reducible refine kAL ?_); (first | refine uK (c1) ?_ | refine uA ?_)) | refine uC ?_ | fail)
 all_goals first | (exfalso; omega) | (exact Fin.q Tryz.results130 (.cons (.tmp rfl) .nil) [])
theorem values_c (l : List Int) (m : Int) (hl : l.length ≤ 1152921504606846976) : Cd Tryz.prog 126 [.ln (l.map tI), i64 m] (bo (valsOK l m)) [] := by
 have cF := conFI_c 152 [] [] (fun n => !inI n 0 4294967295) l (fun n _ => ⟨_, _, [], [], rfl, Tryz.func152, by kernel_rfl, by kernel_rfl, fun _ => .nil, fun _ => .nil, values1_c n⟩) rfl (fun _ _ => .fnL .nil .nil) hl
 have h1 : (l.map tI).length = l.length := List.length_map _
 unfold valsOK
 rw [List.all_eq_not_any_not]
 generalize (l.any fun n => !inI n 0 4294967295) = b at *
 by_cases e : (l.length : Int) ≤ m
 ·rw [decide_eq_true e]
  refine Cd.enter' Tryz.func126 rfl Tryz.ntmps126 rfl ?_
  repeat' (first | ((with_reducible refine kAL ?_); (first | refine uK (cF) ?_ | refine uA ?_)) | refine uC ?_ | fail)
  all_goals first | (exfalso; omega) | (exact Fin.q Tryz.results126 (.cons (.tmp rfl) .nil) [])
 ·rw [decide_eq_false e]
  refine Cd.enter' Tryz.func126 rfl Tryz.ntmps126 rfl ?_
  repeat' (first | refine uA ?_ | refine uC ?_ | fail)
  all_goals first | (exfalso; omega) | (exact Fin.q Tryz.results126 (.cons (.tmp rfl) .nil) [])
theorem done_c (l : List Rst) (m : Int) (hl : l.length ≤ 1152921504606846976) : Cd Tryz.prog 93 [.ln (l.map tR), i64 m] (bo (resOK l m)) [] := by
 have cF := conFR_c 130 [] [] (fun r => !goodR r) l (fun r _ => ⟨_, _, [], [], rfl, Tryz.func130, by kernel_rfl, by kernel_rfl, fun _ => .nil, fun _ => .nil, done1_c r⟩) rfl (fun _ _ => .fnL .nil .nil) hl
 have h1 : (l.map tR).length = l.length := List.length_map _
 unfold resOK
 rw [List.all_eq_not_any_not]
 generalize (l.any fun n => !goodR n) = b at *
 by_cases e : (l.length : Int) = m
 ·rw [decide_eq_true e]
  refine Cd.enter' Tryz.func93 rfl Tryz.ntmps93 rfl ?_
  repeat' (first | ((with_reducible refine kAL ?_); (first | refine uK (cF) ?_ | refine uA ?_)) | refine uC ?_ | fail)
  all_goals first | (exfalso; omega) | (exact Fin.q Tryz.results93 (.cons (.tmp rfl) .nil) [])
 ·rw [decide_eq_false e]
  refine Cd.enter' Tryz.func93 rfl Tryz.ntmps93 rfl ?_
  repeat' (first | refine uA ?_ | refine uC ?_ | fail)
  all_goals first | (exfalso; omega) | (exact Fin.q Tryz.results93 (.cons (.tmp rfl) .nil) [])
theorem channel_c (c : DConf) (x : DChan) (hl : x.buf.length ≤ 1152921504606846976) : Cd Tryz.prog 96 [aCf c, aCh x] (bo (chanOK c.cap x)) [] := by
 have c1 := in_c x.gen 0 4095
 have c2 := in_c x.cap 0 c.cap
 have c3 := values_c x.buf x.cap hl
 unfold chanOK
 generalize inI x.gen 0 4095 = b1 at *
 generalize inI x.cap 0 c.cap = b2 at *
 generalize valsOK x.buf x.cap = b3 at *
 obtain ⟨g, k, u, cl, buf⟩ := x
 dsimp only at c1 c2 c3 ⊢
 have cs : b1 = false ∨ (b1 = true ∧ b2 = false) ∨ (b1 = true ∧ b2 = true ∧ b3 = false) ∨ (b1 = true ∧ b2 = true ∧ b3 = true ∧ u = true) ∨ (b1 = true ∧ b2 = true ∧ b3 = true ∧ u = false ∧ cl = true) ∨ (b1 = true ∧ b2 = true ∧ b3 = true ∧ u = false ∧ cl = false ∧ ¬ k = 0) ∨ (b1 = true ∧ b2 = true ∧ b3 = true ∧ u = false ∧ cl = false ∧ k = 0) := by
  by_cases e : k = 0 <;> cases b1 <;> cases b2 <;> cases b3 <;> cases u <;> cases cl <;> simp [e]
 rcases cs with rfl | ⟨rfl, rfl⟩ | ⟨rfl, rfl, rfl⟩ | ⟨rfl, rfl, rfl, rfl⟩ | ⟨rfl, rfl, rfl, rfl, rfl⟩ | ⟨rfl, rfl, rfl, rfl, rfl, e⟩ | ⟨rfl, rfl, rfl, rfl, rfl, e⟩
 all_goals
  refine Cd.enter' Tryz.func96 rfl Tryz.ntmps96 rfl ?_
  repeat' (first | ((with_reducible refine kAL ?_); (first | refine uK (c1) ?_ | refine uK (c2) ?_ | refine uK (c3) ?_ | refine uA ?_)) | refine uC ?_ | fail)
  all_goals first | (exfalso; omega) | (exact Bool.noConfusion hc) | ((first | exact Fin.q Tryz.results96 (.cons (.tmp rfl) .nil) [] | refine Fin.q Tryz.results96 (.cons (.tmp rfl) .nil) [] (hr := (.t ?_))))
  all_goals first | (simp; done) | (simp [e]; done) | skip
theorem pmay_c (k : DCase) : Cd Tryz.prog 51 [.agg [i64 k.dir, i64 k.handle, i64 k.value]] (bo (caseOK k)) [] := by
 have c1 := pfits_c k.handle 16 65536 (by decide) (by decide)
 have c2 := pfits_c k.value 32 4294967296 (by decide) (by decide)
 rw [fitI_in _ _ 65535 (by decide)] at c1
 rw [fitI_in _ _ 4294967295 (by decide)] at c2
 unfold caseOK
 generalize inI k.handle 0 65535 = b1 at *
 generalize inI k.value 0 4294967295 = b2 at *
 by_cases e1 : k.dir = 1 <;> by_cases e2 : k.dir = 2
 all_goals
  cases b1 <;> cases b2
  all_goals
   refine Cd.enter' Tryz.func51 rfl Tryz.ntmps51 rfl ?_
   repeat' (first | ((with_reducible refine kAL ?_); (first | refine uK (c1) ?_ | refine uK (c2) ?_ | refine uA ?_)) | refine uC ?_ | fail)
   all_goals first | (exfalso; omega) | (refine Fin.q Tryz.results51 (.cons (.tmp rfl) .nil) [] (hr := (.t ?_)))
   all_goals first | (simp [*]; done) | skip
def fitQ (q : DReq) : Bool := inI q.kind 1 9 && inI q.arg 0 65535 && inI q.value 0 4294967295 && decide (q.cases.length ≤ 3) && q.cases.all caseOK
theorem fitQ_sel (l : List DCase) : fitQ ⟨3, 0, 0, false, l⟩ = (decide (l.length ≤ 3) && l.all caseOK) := by unfold fitQ; rfl
theorem pFits_c (q : DReq) (hl : q.cases.length ≤ 1152921504606846976) : Cd Tryz.prog 24 [aRq q] (bo (fitQ q)) [] := by
 have c1 := pfits_c q.arg 16 65536 (by decide) (by decide)
 have c2 := pfits_c q.value 32 4294967296 (by decide) (by decide)
 rw [fitI_in _ _ 65535 (by decide)] at c1
 rw [fitI_in _ _ 4294967295 (by decide)] at c2
 have h1 : (q.cases.map tCs).length = q.cases.length := List.length_map _
 obtain ⟨k, a, v, df, l⟩ := q
 unfold fitQ
 dsimp only at *
 generalize inI a 0 65535 = b1 at *
 generalize inI v 0 4294967295 = b2 at *
 by_cases k1 : 1 ≤ k ∧ k ≤ 9
 ·rw [show inI k 1 9 = true from decide_eq_true k1]
  by_cases k2 : l.length ≤ 3
  ·rw [decide_eq_true k2]
   cases b1
   ·refine Cd.enter' Tryz.func24 rfl Tryz.ntmps24 rfl ?_
    repeat' (first | ((with_reducible refine kAL ?_); (first | refine uK (c1) ?_ | refine uA ?_)) | refine uC ?_ | fail)
    all_goals first | (exfalso; omega) | (exact Fin.q Tryz.results24 (.cons (.tmp rfl) .nil) [])
   ·cases b2
    ·refine Cd.enter' Tryz.func24 rfl Tryz.ntmps24 rfl ?_
     repeat' (first | ((with_reducible refine kAL ?_); (first | refine uK (c1) ?_ | refine uK (c2) ?_ | refine uA ?_)) | refine uC ?_ | fail)
     all_goals first | (exfalso; omega) | (exact Fin.q Tryz.results24 (.cons (.tmp rfl) .nil) [])
    ·simp only [Bool.true_and]
     refine Cd.enter' Tryz.func24 rfl Tryz.ntmps24 rfl ?_
     repeat' (first | ((with_reducible refine kAL ?_); (first | refine uK (c1) ?_ | refine uK (c2) ?_ | refine uA ?_)) | refine uC ?_ | fail)
     all_goals first | (exfalso; omega) | skip
     refine AW.loopP (fun (i : Nat) => i ≤ l.length ∧ ∀ j, j < i → ∀ a, l[j]? = some a → caseOK a = true) (fun (i : Nat) => (pu (pu (pu (fun _ => .any) 32 (.ln (l.map tCs))) 33 (i64 (l.map tCs).length)) 34 (i64 i))) (fun (i : Nat) => []) (fun (i : Nat) => l.length - i) (0) ?_ ?_ ?_
     ·exact ⟨Nat.zero_le _, fun j hj => by omega⟩
     ·exact Wk.cq 0
     ·rintro i ⟨h2, h3⟩
      by_cases hi : i < l.length
      ·obtain ⟨a, ha⟩ : ∃ a, l[i]? = some a := ⟨_, List.getElem?_eq_getElem hi⟩
       have cA := pmay_c a
       cases hv : caseOK a
       ·rw [hv] at cA
        have : l.all caseOK = false := List.all_eq_false.2 ⟨a, List.mem_of_getElem? ha, by rw [hv]; decide⟩
        rw [this]
        repeat' (first | ((with_reducible refine kAL ?_); (first | refine uK (cA) ?_ | refine uA ?_)) | refine uC ?_ | fail)
        all_goals first | (exfalso; omega) | (exact Fin.q Tryz.results24 (.cons (.tmp rfl) .nil) [])
       ·rw [hv] at cA
        repeat' (first | ((with_reducible refine kAL ?_); (first | refine uK (cA) ?_ | refine uA ?_)) | refine uC ?_ | fail)
        all_goals first | (exfalso; omega) | skip
        refine ⟨i + 1, ⟨by omega, fun j hj b hb => ?_⟩, by omega, ?_⟩
        ·by_cases e : j = i
         ·subst e; rw [ha] at hb; cases hb; exact hv
         ·exact h3 j (by omega) b hb
        ·exact Wk.cq 0
      ·have : l.all caseOK = true := List.all_eq_true.2 fun a ha => by
        obtain ⟨j, hj⟩ := List.getElem?_of_mem ha
        exact h3 j (by have := get_lt hj; omega) a hj
       rw [this]
       repeat' (first | refine uA ?_ | refine uC ?_ | fail)
       all_goals first | (exfalso; omega) | (exact Fin.q Tryz.results24 (.cons (.tmp rfl) .nil) [])
  ·rw [decide_eq_false k2, Bool.and_false, Bool.false_and]
   cases b1 <;> cases b2
   all_goals
    refine Cd.enter' Tryz.func24 rfl Tryz.ntmps24 rfl ?_
    repeat' (first | ((with_reducible refine kAL ?_); (first | refine uK (c1) ?_ | refine uK (c2) ?_ | refine uA ?_)) | refine uC ?_ | fail)
    all_goals first | (exfalso; omega) | (exact Fin.q Tryz.results24 (.cons (.tmp rfl) .nil) [])
 ·rw [show inI k 1 9 = false from decide_eq_false k1]
  simp only [Bool.false_and]
  by_cases k2 : k < 1
  all_goals
   refine Cd.enter' Tryz.func24 rfl Tryz.ntmps24 rfl ?_
   repeat' (first | refine uA ?_ | refine uC ?_ | fail)
   all_goals first | (exfalso; omega) | (exact Fin.q Tryz.results24 (.cons (.tmp rfl) .nil) [])
theorem wait_c (w : DWait) (hl : w.cases.length ≤ 1152921504606846976) : Cd Tryz.prog 99 [aWt w] (bo (waitOK w)) [] := by
 have h1 : (w.cases.map tCs).length = w.cases.length := List.length_map _
 have c1 := in_c w.ticket 0 4294967295
 have c2 := in_c w.seq 0 1048575
 have c3 := in_c (w.cases.map tCs).length 1 3
 have c4 := pFits_c ⟨3, 0, 0, false, w.cases⟩ hl
 rw [fitQ_sel] at c4
 obtain ⟨on, tk, sq, l⟩ := w
 unfold waitOK
 dsimp only at *
 cases on
 ·rw [if_neg (by decide)]
  have hst : l = [] ↔ l.length = 0 := List.length_eq_zero_iff.symm
  have cs : ¬ tk = 0 ∨ (tk = 0 ∧ ¬ sq = 0) ∨ (tk = 0 ∧ sq = 0 ∧ ¬ l.length = 0) ∨ (tk = 0 ∧ sq = 0 ∧ l.length = 0) := by omega
  clear c1 c2 c3 c4
  rcases cs with e1 | ⟨e1, e2⟩ | ⟨e1, e2, e3⟩ | ⟨e1, e2, e3⟩
  all_goals
   refine Cd.enter' Tryz.func99 rfl Tryz.ntmps99 rfl ?_
   repeat' (first | refine uA ?_ | refine uC ?_ | fail)
   all_goals first | (exfalso; omega) | (refine Fin.q Tryz.results99 (.cons (.tmp rfl) .nil) [] (hr := (.t ?_)))
   all_goals first | (simp [e1]; done) | (simp [e1, e2]; done) | (simp [e1, e2, hst, e3]; done) | skip
 ·rw [if_pos rfl]
  have e3 : inI (l.map tCs).length 1 3 = decide (1 ≤ l.length ∧ l.length ≤ 3) := by unfold inI; exact decide_eq_decide.2 (by omega)
  rw [e3] at c3
  generalize inI tk 0 4294967295 = b1 at *
  generalize inI sq 0 1048575 = b2 at *
  by_cases k : 1 ≤ l.length ∧ l.length ≤ 3
  ·rw [decide_eq_true k] at c3 ⊢
   rw [decide_eq_true k.2, Bool.true_and] at c4
   generalize l.all caseOK = b4 at *
   have cs : b1 = false ∨ (b1 = true ∧ b2 = false) ∨ (b1 = true ∧ b2 = true) := by cases b1 <;> cases b2 <;> simp
   rcases cs with rfl | ⟨rfl, rfl⟩ | ⟨rfl, rfl⟩
   all_goals
    refine Cd.enter' Tryz.func99 rfl Tryz.ntmps99 rfl ?_
    repeat' (first | ((with_reducible refine kAL ?_); (first | refine uK (c1) ?_ | refine uK (c2) ?_ | refine uK (c3) ?_ | refine uK (c4) ?_ | refine uA ?_)) | refine uC ?_ | fail)
    all_goals first | (exfalso; omega) | (exact Bool.noConfusion hc) | (exact Fin.q Tryz.results99 (.cons (.tmp rfl) .nil) [])
    all_goals first | (simp; done) | skip
  ·rw [decide_eq_false k] at c3 ⊢
   rw [Bool.and_false, Bool.false_and]
   have cs : b1 = false ∨ (b1 = true ∧ b2 = false) ∨ (b1 = true ∧ b2 = true) := by cases b1 <;> cases b2 <;> simp
   rcases cs with rfl | ⟨rfl, rfl⟩ | ⟨rfl, rfl⟩
   all_goals
    refine Cd.enter' Tryz.func99 rfl Tryz.ntmps99 rfl ?_
    repeat' (first | ((with_reducible refine kAL ?_); (first | refine uK (c1) ?_ | refine uK (c2) ?_ | refine uK (c3) ?_ | refine uA ?_)) | refine uC ?_ | fail)
    all_goals first | (exfalso; omega) | (exact Bool.noConfusion hc) | (exact Fin.q Tryz.results99 (.cons (.tmp rfl) .nil) [])
    all_goals first | (simp; done) | skip
theorem fits1_c (c : DConf) (x : DChan) (hl : x.buf.length ≤ 1152921504606846976) : Cd Tryz.prog 95 [.agg ((tCh x).map .t), .lp [i64 c.kind, i64 c.threads, i64 c.chans, i64 c.cap, i64 c.nodes, i64 c.retire, i64 c.patience, i64 c.tags, i64 c.seqs, i64 c.gens, .ln (c.start.map tI)]] (bo (!chanOK c.cap x)) [] := by
 have c1 := channel_c c x hl
 generalize chanOK c.cap x = b at c1
 show Cd Tryz.prog 95 [.agg [i64 x.gen, i64 x.cap, bo x.used, bo x.closed, .t (.lst (x.buf.map tI))], _] _ _
 refine Cd.enter' Tryz.func95 rfl Tryz.ntmps95 rfl ?_
 repeat' (first | ((with_reducible refine kAL ?_); (first | refine uK (c1) ?_ | refine uA ?_)) | refine uC ?_ | fail)
 all_goals first | (exfalso; omega) | (exact Fin.q Tryz.results95 (.cons (.tmp rfl) .nil) [])
theorem fits2_c (w : DWait) (hl : w.cases.length ≤ 1152921504606846976) : Cd Tryz.prog 98 [.agg ((tWt w).map .t)] (bo (!waitOK w)) [] := by
 have c1 := wait_c w hl
 generalize waitOK w = b at c1
 show Cd Tryz.prog 98 [.agg [bo w.on, i64 w.ticket, i64 w.seq, .t (.lst (w.cases.map tCs))]] _ _
 refine Cd.enter' Tryz.func98 rfl Tryz.ntmps98 rfl ?_
 repeat' (first | ((with_reducible refine kAL ?_); (first | refine uK (c1) ?_ | refine uA ?_)) | refine uC ?_ | fail)
 all_goals first | (exfalso; omega) | (exact Fin.q Tryz.results98 (.cons (.tmp rfl) .nil) [])
structure okH (h : DHall) : Prop where
 c : h.chans.length ≤ 1152921504606846976
 b : ∀ x ∈ h.chans, x.buf.length ≤ 1152921504606846976
 w : h.waits.length ≤ 1152921504606846976
 k : ∀ x ∈ h.waits, x.cases.length ≤ 1152921504606846976
 d : h.done.length ≤ 1152921504606846976
theorem fitsH_c (c : DConf) (h : DHall) (hs : c.start.length ≤ 1152921504606846976) (hh : okH h) : Cd Tryz.prog 61 [aCf c, aHl h] (bo (fitsH c h)) [] := by
 have cF := conFC_c 95 [] [.lp [i64 c.kind, i64 c.threads, i64 c.chans, i64 c.cap, i64 c.nodes, i64 c.retire, i64 c.patience, i64 c.tags, i64 c.seqs, i64 c.gens, .ln (c.start.map tI)]] (fun x => !chanOK c.cap x) h.chans
  (fun x hx => ⟨_, _, [], [.lp [i64 c.kind, i64 c.threads, i64 c.chans, i64 c.cap, i64 c.nodes, i64 c.retire, i64 c.patience, i64 c.tags, i64 c.seqs, i64 c.gens, .ln (c.start.map tI)]], rfl, Tryz.func95, by kernel_rfl, by kernel_rfl, fun _ => .nil, fun _ => .cons (.lpL (by repeat (first | exact .nil | refine .cons ?_ ?_ | exact .t _ | exact .ln _))) .nil, fits1_c c x (hh.b x hx)⟩) rfl
  (fun _ _ => .fnL .nil (.cons (.lpL (by repeat (first | exact .nil | refine .cons ?_ ?_ | exact .t _ | exact .ln _))) .nil)) hh.c
 have cW := conFW_c 98 [] [] (fun x => !waitOK x) h.waits (fun x hx => ⟨_, _, [], [], rfl, Tryz.func98, by kernel_rfl, by kernel_rfl, fun _ => .nil, fun _ => .nil, fits2_c x (hh.k x hx)⟩) rfl (fun _ _ => .fnL .nil .nil) hh.w
 have c1 := check_c c hs
 have c2 := in_c h.ticket 0 4294967295
 have c3 := done_c h.done c.threads hh.d
 have h1 : (h.chans.map tCh).length = h.chans.length := List.length_map _
 have h2 : (h.waits.map tWt).length = h.waits.length := List.length_map _
 unfold fitsH
 rw [List.all_eq_not_any_not, List.all_eq_not_any_not]
 generalize (h.chans.any fun x => !chanOK c.cap x) = b5 at *
 generalize (h.waits.any fun x => !waitOK x) = b6 at *
 generalize inI h.ticket 0 4294967295 = b2 at *
 generalize resOK h.done c.threads = b3 at *
 cases hk : chkC c
 ·rw [hk] at c1
  simp only [Bool.false_and]
  refine Cd.enter' Tryz.func61 rfl Tryz.ntmps61 rfl ?_
  repeat' (first | ((with_reducible refine kAL ?_); (first | refine uK (c1) ?_ | refine uA ?_)) | refine uC ?_ | fail)
  all_goals first | (exfalso; omega) | (exact Fin.q Tryz.results61 (.cons (.tmp rfl) .nil) [])
 ·rw [hk] at c1
  have cs : ¬ c.kind = 3 ∨ (c.kind = 3 ∧ b2 = false) ∨ (c.kind = 3 ∧ b2 = true ∧ ¬ (h.chans.length : Int) = c.chans) ∨ (c.kind = 3 ∧ b2 = true ∧ (h.chans.length : Int) = c.chans ∧ ¬ (h.waits.length : Int) = c.threads) ∨ (c.kind = 3 ∧ b2 = true ∧ (h.chans.length : Int) = c.chans ∧ (h.waits.length : Int) = c.threads ∧ b3 = false) ∨ (c.kind = 3 ∧ b2 = true ∧ (h.chans.length : Int) = c.chans ∧ (h.waits.length : Int) = c.threads ∧ b3 = true ∧ b5 = true) ∨ (c.kind = 3 ∧ b2 = true ∧ (h.chans.length : Int) = c.chans ∧ (h.waits.length : Int) = c.threads ∧ b3 = true ∧ b5 = false ∧ b6 = true) ∨ (c.kind = 3 ∧ b2 = true ∧ (h.chans.length : Int) = c.chans ∧ (h.waits.length : Int) = c.threads ∧ b3 = true ∧ b5 = false ∧ b6 = false) := by
   by_cases e1 : c.kind = 3 <;> by_cases e2 : (h.chans.length : Int) = c.chans <;> by_cases e3 : (h.waits.length : Int) = c.threads <;> cases b2 <;> cases b3 <;> cases b5 <;> cases b6 <;> simp [e1, e2, e3]
  rcases cs with e1 | ⟨e1, rfl⟩ | ⟨e1, rfl, e2⟩ | ⟨e1, rfl, e2, e3⟩ | ⟨e1, rfl, e2, e3, rfl⟩ | ⟨e1, rfl, e2, e3, rfl, rfl⟩ | ⟨e1, rfl, e2, e3, rfl, rfl, rfl⟩ | ⟨e1, rfl, e2, e3, rfl, rfl, rfl⟩
  all_goals
   refine Cd.enter' Tryz.func61 rfl Tryz.ntmps61 rfl ?_
   repeat' (first | ((with_reducible refine kAL ?_); (first | refine uK (c1) ?_ | refine uK (c2) ?_ | refine uK (c3) ?_ | refine uK (cF) ?_ | refine uK (cW) ?_ | refine uA ?_)) | refine uC ?_ | fail)
   all_goals first | (exfalso; omega) | (exact Bool.noConfusion hc) | (refine Fin.q Tryz.results61 (.cons (.tmp rfl) .nil) [] (hr := (.t ?_)))
   all_goals first | (simp [e1]; done) | (simp [e1, e2]; done) | (simp [e1, e2, e3]; done) | skip
theorem fitsX_c (c : DConf) (x : DCells) (hs : c.start.length ≤ 1152921504606846976) (h1 : x.list.length ≤ 1152921504606846976) (h2 : x.done.length ≤ 1152921504606846976) : Cd Tryz.prog 83 [aCf c, aCl x] (bo (fitsX c x)) [] := by
 have c1 := check_c c hs
 have c2 := values_c x.list c.cap h1
 have c3 := done_c x.done c.threads h2
 unfold fitsX
 generalize valsOK x.list c.cap = b2 at *
 generalize resOK x.done c.threads = b3 at *
 cases hk : chkC c
 ·rw [hk] at c1
  simp only [Bool.false_and]
  refine Cd.enter' Tryz.func83 rfl Tryz.ntmps83 rfl ?_
  repeat' (first | ((with_reducible refine kAL ?_); (first | refine uK (c1) ?_ | refine uA ?_)) | refine uC ?_ | fail)
  all_goals first | (exfalso; omega) | (exact Fin.q Tryz.results83 (.cons (.tmp rfl) .nil) [])
 ·rw [hk] at c1
  have cs : c.kind = 3 ∨ (¬ c.kind = 3 ∧ ¬ x.cap = c.cap) ∨ (¬ c.kind = 3 ∧ x.cap = c.cap ∧ b2 = false) ∨ (¬ c.kind = 3 ∧ x.cap = c.cap ∧ b2 = true ∧ b3 = false) ∨ (¬ c.kind = 3 ∧ x.cap = c.cap ∧ b2 = true ∧ b3 = true) := by
   by_cases e1 : c.kind = 3 <;> by_cases e2 : x.cap = c.cap <;> cases b2 <;> cases b3 <;> simp [e1, e2]
  rcases cs with e1 | ⟨e1, e2⟩ | ⟨e1, e2, rfl⟩ | ⟨e1, e2, rfl, rfl⟩ | ⟨e1, e2, rfl, rfl⟩
  all_goals
   refine Cd.enter' Tryz.func83 rfl Tryz.ntmps83 rfl ?_
   repeat' (first | ((with_reducible refine kAL ?_); (first | refine uK (c1) ?_ | refine uK (c2) ?_ | refine uK (c3) ?_ | refine uA ?_)) | refine uC ?_ | fail)
   all_goals first | (exfalso; omega) | (exact Bool.noConfusion hc) | (refine Fin.q Tryz.results83 (.cons (.tmp rfl) .nil) [] (hr := (.t ?_)))
   all_goals first | (simp [e1]; done) | (simp [e1, e2]; done) | skip
end
section
attribute [local irreducible] AL AW RG Fin C Cd Cio thenQ blockQ retQ
set_option maxRecDepth 100000
attribute [local simp] wpad_len
theorem wpad_eq {l : List Int} {n : Nat} (h : l.length ≤ n) : wpad l n = l ++ List.replicate (n - l.length) 0 := by
 refine List.ext_getElem? fun i => ?_
 by_cases hi : i < n
 ·rw [wpad_get l hi, List.getD_eq_getElem?_getD]
  by_cases hl : i < l.length
  ·rw [List.getElem?_append_left hl, List.getElem?_eq_getElem hl]; rfl
  ·rw [List.getElem?_append_right (by omega), List.getElem?_replicate, if_pos (by omega), List.getElem?_eq_none (by omega)]; rfl
 ·rw [List.getElem?_eq_none (by simp; omega), List.getElem?_eq_none (by simp; omega)]
theorem crow_c (l : List Int) (n k m : Nat) (o : List Int) (hm : m = o.length) (hv : ∀ x ∈ l, 0 ≤ x ∧ x ≤ 4294967295) (hl : l.length ≤ 1000000) (hb : o.length + n ≤ 1000000) :
  Cio Tryz.prog 62 [.sl 0 k m, .ln (l.map tI), i64 n] [.row k 31 1 (o.map tU)] (.sl 0 (k + n) (m + n)) [.row (k + n) 31 1 ((o ++ wpad l n).map tU)] := by
 subst hm
 have h1 : (l.map tI).length = l.length := List.length_map _
 refine Cio.enter' Tryz.func62 rfl Tryz.ntmps62 rfl qM ?_
 repeat' (first | refine uA ?_ | refine uC ?_ | fail)
 refine AW.loopP (fun (i : Nat) => i ≤ n) (fun (i : Nat) => (pu (pu (pu (pu (fun _ => .any) 0 (.sl 0 (k + i) (o.length + i))) 1 (.ln (l.map tI))) 9 (i64 n)) 10 (i64 i))) (fun (i : Nat) => [.row (k + i) 31 1 ((o ++ wpad l i).map tU)]) (fun (i : Nat) => n - i) (0) ?_ ?_ ?_
 ·exact Nat.zero_le _
 ·rw [show o ++ wpad l 0 = o by simp [wpad]]
  exact Wk.cq 1
 ·intro i h2
  have hL : (o ++ wpad l i).length = o.length + i := by simp
  by_cases hi : i < n
  ·by_cases hj : i < l.length
   ·obtain ⟨a, ha⟩ : ∃ a, l[i]? = some a := ⟨_, List.getElem?_eq_getElem hj⟩
    have hva := hv a (List.mem_of_getElem? ha)
    have hs : o ++ wpad l (i + 1) = (o ++ wpad l i) ++ [a] := by rw [wpad_succ, List.getD_eq_getElem?_getD, ha, List.append_assoc]; rfl
    repeat' (first | ((with_reducible refine kAL ?_); (first | refine A_lit rfl rfl 25 1 _ rfl ud25 inf31 (.cons rfl .nil) (els := [[_]]) rfl (by exact (rfl : _ = List.map tU [_])) rfl (Nat.ne_of_beq_eq_false rfl) (Nat.le_of_ble_eq_true rfl) (Nat.le_of_ble_eq_true rfl) (.push qL qN) ?_ | refine uA ?_)) | refine uC ?_ | fail)
    all_goals first | (exfalso; omega) | skip
    refine ⟨i + 1, by omega, by omega, ?_⟩
    rw [hs]
    exact Wk.cq 1
   ·have hs : o ++ wpad l (i + 1) = (o ++ wpad l i) ++ [0] := by rw [wpad_succ, List.getD_eq_getElem?_getD, List.getElem?_eq_none (by omega), List.append_assoc]; rfl
    repeat' (first | ((with_reducible refine kAL ?_); (first | refine A_lit rfl rfl 25 1 _ rfl ud25 inf31 (.cons rfl .nil) (els := [[_]]) rfl (by exact (rfl : _ = List.map tU [_])) rfl (Nat.ne_of_beq_eq_false rfl) (Nat.le_of_ble_eq_true rfl) (Nat.le_of_ble_eq_true rfl) (.push qL qN) ?_ | refine uA ?_)) | refine uC ?_ | fail)
    all_goals first | (exfalso; omega) | skip
    refine ⟨i + 1, by omega, by omega, ?_⟩
    rw [hs]
    exact Wk.cq 1
  ·obtain rfl : i = n := by omega
   repeat' (first | refine uA ?_ | refine uC ?_ | fail)
   all_goals first | (exfalso; omega) | (exact Fin.q Tryz.results62 (.cons (.tmp rfl) .nil) [])
theorem crow_n (l : List Int) (cap : Int) (n k m : Nat) (o : List Int) (hc : cap = n) (hm : m = o.length) (hv : ∀ x ∈ l, 0 ≤ x ∧ x ≤ 4294967295) (hl : l.length ≤ 1000000) (hb : o.length + n ≤ 1000000) :
  Cio Tryz.prog 62 [.sl 0 k m, .ln (l.map tI), i64 cap] [.row k 31 1 (o.map tU)] (.sl 0 (k + n) (m + n)) [.row (k + n) 31 1 ((o ++ wpad l n).map tU)] := by subst hc; exact crow_c l n k m o hm hv hl hb
theorem cresults_c (l : List Rst) (k m : Nat) (o : List Int) (hm : m = o.length) (hl : l.length ≤ 1000000) (hb : o.length + l.length ≤ 1000000) :
  Cio Tryz.prog 66 [.sl 0 k m, .ln (l.map tR)] [.row k 31 1 (o.map tU)] (.sl 0 (k + l.length) (m + l.length)) [.row (k + l.length) 31 1 ((o ++ l.map wordR).map tU)] := by
 subst hm
 have h1 : (l.map tR).length = l.length := List.length_map _
 refine Cio.enter' Tryz.func66 rfl Tryz.ntmps66 rfl qM ?_
 repeat' (first | refine uA ?_ | refine uC ?_ | fail)
 refine AW.loopP (fun (i : Nat) => i ≤ l.length) (fun (i : Nat) => (pu (pu (pu (pu (fun _ => .any) 0 (.sl 0 (k + i) (o.length + i))) 7 (.ln (l.map tR))) 8 (i64 (l.map tR).length)) 9 (i64 i))) (fun (i : Nat) => [.row (k + i) 31 1 ((o ++ (l.take i).map wordR).map tU)]) (fun (i : Nat) => l.length - i) (0) ?_ ?_ ?_
 ·exact Nat.zero_le _
 ·rw [show o ++ (l.take 0).map wordR = o by simp]
  exact Wk.cq 1
 ·intro i h2
  have hL : (o ++ (l.take i).map wordR).length = o.length + i := by simp; omega
  by_cases hi : i < l.length
  ·obtain ⟨a, ha⟩ : ∃ a, l[i]? = some a := ⟨_, List.getElem?_eq_getElem hi⟩
   have hs : o ++ (l.take (i + 1)).map wordR = (o ++ (l.take i).map wordR) ++ [wordR a] := by rw [List.take_add_one, ha]; simp
   repeat' (first | ((with_reducible refine kAL ?_); (first | refine uK (presult_c a) ?_ | refine A_lit rfl rfl 25 1 _ rfl ud25 inf31 (.cons rfl .nil) (els := [[_]]) rfl (by exact (rfl : _ = List.map tU [_])) rfl (Nat.ne_of_beq_eq_false rfl) (Nat.le_of_ble_eq_true rfl) (Nat.le_of_ble_eq_true rfl) (.push qL qN) ?_ | refine uA ?_)) | refine uC ?_ | fail)
   all_goals first | (exfalso; omega) | skip
   refine ⟨i + 1, by omega, by omega, ?_⟩
   rw [hs]
   exact Wk.cq 1
  ·obtain rfl : i = l.length := by omega
   repeat' (first | refine uA ?_ | refine uC ?_ | fail)
   all_goals first | (exfalso; omega) | ((refine Fin.mkv (rs := _) Tryz.results66 (.cons (.tmp rfl) .nil) [] (by decide) rfl ?_ ?_ ?_ <;> repeat' (skip; first | exact .nil | refine .cons rfl ?_ ?_ | refine .cons ?_ ?_ | refine .row ?_ | refine .rset ?_ | refine .box ?_ | exact .gone | refine .aggL ?_ | refine .tupL ?_ | refine .old rfl ?_ | refine .new rfl rfl rfl ?_ | exact .nl | exact .optr rfl | exact .nptr rfl rfl rfl | refine .t ?_ | exact .any _ | rfl)))
   all_goals (rw [List.take_length])
theorem flag_c (b : Bool) : Cd Tryz.prog 64 [bo b] (u64 (bitI b)) [] := by
 cases b
 all_goals
  refine Cd.enter' Tryz.func64 rfl Tryz.ntmps64 rfl ?_
  repeat' (first | refine uA ?_ | refine uC ?_ | fail)
  all_goals (exact Fin.q Tryz.results64 (.cons (.tmp rfl) .nil) [])
theorem head_c (x : DChan) (cap : Int) (hc : cap ≤ 15) (h : chanOK cap x = true) : Cd Tryz.prog 63 [aCh x] (u64 (headC x)) [] := by
 obtain ⟨h1, h2, ⟨h3, h4⟩, _⟩ := chanOK_iff.1 h
 have g1 : (x.buf.map tI).length = x.buf.length := List.length_map _
 have b1 := bitI_b x.used
 have b2 := bitI_b x.closed
 have c1 := flag_c x.used
 have c2 := flag_c x.closed
 unfold headC
 refine Cd.enter' Tryz.func63 rfl Tryz.ntmps63 rfl ?_
 repeat' (first | refine uA ?_ | ((with_reducible refine kRG ?_); (first | refine R_shl rfl rfl 31 97 _ _ rfl rfl rfl (by decide) (shl_lit (m := 4096) rfl (by exact wu)) ?_ | refine R_bits rfl rfl .or 31 31 _ _ rfl rfl rfl rfl (or_sum' 12 (M := 4096) rfl (by omega) (by omega) (by omega) (by omega) (by omega) (by omega)) ?_ | refine R_bits rfl rfl .or 31 31 _ _ rfl rfl rfl rfl (or_sum' 16 (M := 65536) rfl (by omega) (by omega) (by omega) (by omega) (by omega) (by omega)) ?_ | refine R_bits rfl rfl .or 31 31 _ _ rfl rfl rfl rfl (or_sum' 17 (M := 131072) rfl (by omega) (by omega) (by omega) (by omega) (by omega) (by omega)) ?_ | refine R_bits rfl rfl .or 31 31 _ _ rfl rfl rfl rfl (or_sum' 20 (M := 1048576) rfl (by omega) (by omega) (by omega) (by omega) (by omega) (by omega)) ?_ | refine R_shl rfl rfl 31 97 _ _ rfl rfl rfl (by decide) (shl_lit (m := 65536) rfl (by exact wu)) ?_ | refine R_shl rfl rfl 31 97 _ _ rfl rfl rfl (by decide) (shl_lit (m := 131072) rfl (by exact wu)) ?_ | refine R_shl rfl rfl 31 97 _ _ rfl rfl rfl (by decide) (shl_lit (m := 1048576) rfl (by exact wu)) ?_ | refine uQ (c1) 0 ?_ | refine uQ (c2) 0 ?_ | refine uR ?_)) | refine uC ?_ | refine AW.drawU (id := 1) mixed 0 qR ?_ | fail)
 all_goals first | (exfalso; omega) | (refine Fin.q Tryz.results63 (.cons (.tmp rfl) .nil) [] (hr := (.t ?_)))
 all_goals (refine congrArg (fun z => Tr.v (Value.int IntKind.u64 z)) ?_; omega)
def callW (q : DReq) (ph : Int) : List Int := (q.kind + 256 * q.cases.length + 65536 * q.arg + 4294967296 * q.value) :: (wpad (q.cases.map wordK) 3 ++ [ph])
theorem fitQ_iff {q : DReq} : fitQ q = true ↔ (1 ≤ q.kind ∧ q.kind ≤ 9) ∧ (0 ≤ q.arg ∧ q.arg ≤ 65535) ∧ (0 ≤ q.value ∧ q.value ≤ 4294967295) ∧ q.cases.length ≤ 3 ∧ ∀ k ∈ q.cases, caseOK k = true := by
 unfold fitQ; simp only [Bool.and_eq_true, decide_eq_true_eq, List.all_eq_true, inI_iff, and_assoc]
def callA (hd : Int) (l : List DCase) (i : Nat) : List Int := hd :: (l.take i).map wordK
def callB (hd : Int) (l : List DCase) (j : Nat) : List Int := hd :: (l.map wordK ++ List.replicate j 0)
theorem pCall_c (q : DReq) (ph : Int) (hq : fitQ q = true) (hd : q.dflt = false) (hp : 0 ≤ ph ∧ ph ≤ 4294967295) : Cd Tryz.prog 65 [aRq q, i64 ph] (.t (.lst ((callW q ph).map tU))) [] := by
 obtain ⟨g1, g2, g3, g4, g5⟩ := fitQ_iff.1 hq
 have c1 := pFits_c q (by omega)
 rw [hq] at c1
 have c2 := pfits_c ph 32 4294967296 (by decide) (by decide)
 rw [show fitI ph 4294967296 = true from decide_eq_true (by omega)] at c2
 have h1 : (q.cases.map tCs).length = q.cases.length := List.length_map _
 unfold callW
 rw [wpad_eq (by simpa using g4), List.length_map]
 obtain ⟨kd, ar, vl, df, l⟩ := q
 dsimp only at *
 subst hd
 generalize hH : kd + 256 * (l.length : Int) + 65536 * ar + 4294967296 * vl = hd0
 have hH2 : kd + ((l.map tCs).length : Int) * 256 + ar * 65536 + vl * 4294967296 = hd0 := by omega
 refine Cd.enter' Tryz.func65 rfl Tryz.ntmps65 rfl ?_
 repeat' (first | ((with_reducible refine kAL ?_); (first | refine uK (c1) ?_ | refine uK (c2) ?_ | refine A_shl rfl rfl 31 97 _ _ rfl rfl rfl (by decide) (shl_lit (m := 256) rfl (by exact wu)) ?_ | refine A_bits rfl rfl .or 31 31 _ _ rfl rfl rfl rfl (or_sum' 8 (M := 256) rfl (by omega) (by omega) (by omega) (by omega) (by omega) (by omega)) ?_ | refine A_bits rfl rfl .or 31 31 _ _ rfl rfl rfl rfl (or_sum' 16 (M := 65536) rfl (by omega) (by omega) (by omega) (by omega) (by omega) (by omega)) ?_ | refine A_bits rfl rfl .or 31 31 _ _ rfl rfl rfl rfl (or_sum' 32 (M := 4294967296) rfl (by omega) (by omega) (by omega) (by omega) (by omega) (by omega)) ?_ | refine A_shl rfl rfl 31 97 _ _ rfl rfl rfl (by decide) (shl_lit (m := 65536) rfl (by exact wu)) ?_ | refine A_shl rfl rfl 31 97 _ _ rfl rfl rfl (by decide) (shl_lit (m := 4294967296) rfl (by exact wu)) ?_ | refine A_lit rfl rfl 25 1 _ rfl ud25 inf31 (.cons rfl .nil) (els := [[_]]) rfl (by exact (rfl : _ = List.map tU [_])) rfl (Nat.ne_of_beq_eq_false rfl) (Nat.le_of_ble_eq_true rfl) (Nat.le_of_ble_eq_true rfl) (.push qL qN) ?_ | refine uA ?_)) | refine uC ?_ | fail)
 all_goals first | (exfalso; omega) | skip
 refine AW.loopP (fun (i : Nat) => i ≤ l.length) (fun (i : Nat) => (pu (pu (pu (pu (pu (fun _ => .any) 1 (i64 ph)) 6 (.sl 1 i (1 + i))) 43 (.ln (l.map tCs))) 44 (i64 (l.map tCs).length)) 45 (i64 i))) (fun (i : Nat) => [.box 28 [i64 kd, i64 ar, i64 vl, bo false, .ln (l.map tCs)], .row i 31 1 ((callA hd0 l i).map tU)]) (fun (i : Nat) => l.length - i) (0) ?_ ?_ ?_
 ·exact Nat.zero_le _
 ·rw [show callA hd0 l 0 = [hd0] from rfl, ← hH2]
  exact Wk.cq 2
 ·intro i h2
  have hL : (callA hd0 l i).length = 1 + i := by simp [callA]; omega
  by_cases hi : i < l.length
  ·obtain ⟨a, ha⟩ : ∃ a, l[i]? = some a := ⟨_, List.getElem?_eq_getElem hi⟩
   have hk := caseOK_iff.1 (g5 a (List.mem_of_getElem? ha))
   have hw : wordK a = a.dir + a.handle * 256 + a.value * 4294967296 := by unfold wordK; omega
   have hs : callA hd0 l (i + 1) = callA hd0 l i ++ [a.dir + a.handle * 256 + a.value * 4294967296] := by unfold callA; rw [List.take_add_one, ha, ← hw]; simp
   repeat' (first | ((with_reducible refine kAL ?_); (first | refine A_shl rfl rfl 31 97 _ _ rfl rfl rfl (by decide) (shl_lit (m := 256) rfl (by exact wu)) ?_ | refine A_bits rfl rfl .or 31 31 _ _ rfl rfl rfl rfl (or_sum' 8 (M := 256) rfl (by omega) (by omega) (by omega) (by omega) (by omega) (by omega)) ?_ | refine A_bits rfl rfl .or 31 31 _ _ rfl rfl rfl rfl (or_sum' 32 (M := 4294967296) rfl (by omega) (by omega) (by omega) (by omega) (by omega) (by omega)) ?_ | refine A_shl rfl rfl 31 97 _ _ rfl rfl rfl (by decide) (shl_lit (m := 4294967296) rfl (by exact wu)) ?_ | refine A_lit rfl rfl 25 1 _ rfl ud25 inf31 (.cons rfl .nil) (els := [[_]]) rfl (by exact (rfl : _ = List.map tU [_])) rfl (Nat.ne_of_beq_eq_false rfl) (Nat.le_of_ble_eq_true rfl) (Nat.le_of_ble_eq_true rfl) (.push qL qN) ?_ | refine uA ?_)) | refine uC ?_ | fail)
   all_goals first | (exfalso; omega) | skip
   refine ⟨i + 1, by omega, by omega, ?_⟩
   rw [hs]
   exact Wk.cq 2
  ·obtain rfl : i = l.length := by omega
   repeat' (first | refine uA ?_ | refine uC ?_ | fail)
   all_goals first | (exfalso; omega) | skip
   refine AW.loopP (fun (j : Nat) => l.length + j ≤ 3) (fun (j : Nat) => (pu (pu (fun _ => .any) 1 (i64 ph)) 6 (.sl 1 (l.length + j) (1 + l.length + j)))) (fun (j : Nat) => [.box 28 [i64 kd, i64 ar, i64 vl, bo false, .ln (l.map tCs)], .row (l.length + j) 31 1 ((callB hd0 l j).map tU)]) (fun (j : Nat) => 3 - j) (0) ?_ ?_ ?_
   ·omega
   ·rw [show callB hd0 l 0 = callA hd0 l l.length by simp [callA, callB]]
    exact Wk.cq 2
   ·intro j h3
    have hL2 : (callB hd0 l j).length = 1 + l.length + j := by simp [callB]; omega
    by_cases hj : l.length + j < 3
    ·have hs : callB hd0 l (j + 1) = callB hd0 l j ++ [0] := by unfold callB; rw [List.replicate_succ']; simp
     repeat' (first | ((with_reducible refine kAL ?_); (first | refine A_lit rfl rfl 25 1 _ rfl ud25 inf31 (.cons rfl .nil) (els := [[_]]) rfl (by exact (rfl : _ = List.map tU [_])) rfl (Nat.ne_of_beq_eq_false rfl) (Nat.le_of_ble_eq_true rfl) (Nat.le_of_ble_eq_true rfl) (.push qL qN) ?_ | refine uA ?_)) | refine uC ?_ | fail)
     all_goals first | (exfalso; omega) | skip
     refine ⟨j + 1, by omega, by omega, ?_⟩
     rw [hs]
     exact Wk.cq 2
    ·obtain rfl : j = 3 - l.length := by omega
     repeat' (first | ((with_reducible refine kAL ?_); (first | (refine zkD 4 rfl ?_; refine uA ?_; (try refine AL.wk (Wk.freeze 1 rfl 4 rfl (by exact .all (by (simp; omega))) qN) ?_)) | refine A_lit rfl rfl 25 1 _ rfl ud25 inf31 (.cons rfl .nil) (els := [[_]]) rfl (by exact (rfl : _ = List.map tU [_])) rfl (Nat.ne_of_beq_eq_false rfl) (Nat.le_of_ble_eq_true rfl) (Nat.le_of_ble_eq_true rfl) (.push qL qN) ?_ | refine uA ?_)) | refine uC ?_ | fail)
     all_goals first | (exfalso; omega) | (exact Fin.q Tryz.results65 (.cons (.tmp rfl) .nil) [])
     all_goals (simp [callB]; done)
end
section
attribute [local irreducible] AL AW RG Fin C Cd Cio thenQ blockQ retQ
set_option maxRecDepth 100000
abbrev fU (l : List Int) : AV := .t (.lst (l.map tU))
abbrev aRd (l : List Int) : Ob := .box 84 [fU l]
def okU (l : List Int) : Prop := ∀ w ∈ l, 0 ≤ w ∧ w ≤ 18446744073709551615
theorem okU_drop {l : List Int} (h : okU l) (n : Nat) : okU (l.drop n) := fun w hw => h w (List.mem_of_mem_drop hw)
theorem okU_headD {l : List Int} (h : okU l) : 0 ≤ l.headD 0 ∧ l.headD 0 ≤ 18446744073709551615 := by
 cases l with
 | nil => decide
 | cons a l => exact h a (by simp)
theorem rdRow_eq (l : List Int) (n : Nat) (m : Int) : rdRow l n m = (l.take (min m.toNat n)).map fun w => w % 4294967296 := by unfold rdRow; rw [List.take_take]
theorem rdRow_len (l : List Int) (n : Nat) (m : Int) : (rdRow l n m).length ≤ n := by rw [rdRow_eq]; simp; omega
theorem rdRow_succ {l : List Int} {i : Nat} {a m : Int} (ha : l[i]? = some a) (h : (i : Int) < m) : rdRow l (i + 1) m = rdRow l i m ++ [a % 4294967296] := by
 rw [rdRow_eq, rdRow_eq, show min m.toNat (i + 1) = i + 1 by omega, show min m.toNat i = i by omega, List.take_add_one, ha]; simp
theorem rdRow_stop {l : List Int} {i : Nat} {m : Int} (h : ¬ (i : Int) < m) : rdRow l (i + 1) m = rdRow l i m := by
 rw [rdRow_eq, rdRow_eq, show min m.toNat (i + 1) = m.toNat by omega, show min m.toNat i = m.toNat by omega]
theorem rnext_c (l : List Int) (hl : l.length ≤ 1152921504606846976) : Cio Tryz.prog 56 [.ptr 0 0] [aRd l] (u64 (l.headD 0)) [aRd (l.drop 1)] := by
 have h1 : (l.map tU).length = l.length := List.length_map _
 cases l with
 | nil =>
  refine Cio.enter' Tryz.func56 rfl Tryz.ntmps56 rfl qM ?_
  repeat' (first | refine uA ?_ | refine uC ?_ | fail)
  all_goals first | (exfalso; simp at *; done) | (exact Fin.q Tryz.results56 (.cons (.tmp rfl) .nil) [])
  all_goals first | rfl | skip
 | cons a l =>
  have h2 : (a :: l)[0]? = some a := rfl
  refine Cio.enter' Tryz.func56 rfl Tryz.ntmps56 rfl qM ?_
  repeat' (first | refine uA ?_ | refine uC ?_ | fail)
  all_goals first | (exfalso; simp at *; omega) | ((refine Fin.mkv (rs := _) Tryz.results56 (.cons (.tmp rfl) .nil) [] (by decide) rfl ?_ ?_ ?_ <;> repeat' (skip; first | exact .nil | refine .cons rfl ?_ ?_ | refine .cons ?_ ?_ | refine .row ?_ | refine .rset ?_ | refine .box ?_ | exact .gone | refine .aggL ?_ | refine .tupL ?_ | refine .old rfl ?_ | refine .new rfl rfl rfl ?_ | exact .nl | exact .optr rfl | exact .nptr rfl rfl rfl | refine .t ?_ | exact .any _ | rfl)))
  all_goals (try simp)
theorem rrow_c (l : List Int) (hU : okU l) (m : Int) (n : Nat) (hn : n ≤ l.length) (hl : l.length ≤ 1000000) (hm : -9223372036854775808 ≤ m ∧ m ≤ 9223372036854775807) :
  Cio Tryz.prog 86 [.ptr 0 0, i64 m, i64 n] [aRd l] (.t (.lst ((rdRow l n m).map tI))) [aRd (l.drop n)] := by
 have h1 : (l.map tU).length = l.length := List.length_map _
 have hz : rdRow l 0 m = [] := by simp [rdRow]
 refine Cio.enter' Tryz.func86 rfl Tryz.ntmps86 rfl qM ?_
 repeat' (first | refine uA ?_ | refine uC ?_ | fail)
 refine AW.wk (Wk.own 7 rfl 3 1 (.push rfl rfl)) ?_
 refine AW.loopP (fun (x : Nat × Nat × Nat) => x.1 ≤ n ∧ x.2.2 = (rdRow l x.1 m).length) (fun (x : Nat × Nat × Nat) => (pu (pu (pu (pu (pu (fun _ => .any) 0 (.ptr 0 0)) 1 (i64 m)) 7 (.sl 1 x.2.1 x.2.2)) 10 (i64 n)) 11 (i64 x.1))) (fun (x : Nat × Nat × Nat) => [aRd (l.drop x.1), .row x.2.1 3 1 ((rdRow l x.1 m).map tI)]) (fun (x : Nat × Nat × Nat) => n - x.1) ((0, 0, 0)) ?_ ?_ ?_
 ·exact ⟨Nat.zero_le _, by rw [hz]; rfl⟩
 ·dsimp only
  rw [hz]
  exact Wk.cq 2
 ·rintro ⟨i, k, c⟩ ⟨h2, h3⟩
  dsimp only at h2 h3 ⊢
  have hR := rdRow_len l i m
  by_cases hi : i < n
  ·obtain ⟨a, ha⟩ : ∃ a, l[i]? = some a := ⟨_, List.getElem?_eq_getElem (by omega)⟩
   have cN := rnext_c (l.drop i) (by simp; omega)
   rw [drop_cons_of ha, List.headD_cons, List.drop_succ_cons, List.drop_zero, ← drop_cons_of ha] at cN
   have hb := hU a (List.mem_of_getElem? ha)
   by_cases hk : (i : Int) < m
   ·have hs : rdRow l (i + 1) m = rdRow l i m ++ [a % 4294967296] := rdRow_succ ha hk
    repeat' (first | ((with_reducible refine kAL ?_); (first | refine uI [0] (cN) ?_ | refine A_bits rfl rfl .and 31 31 _ _ rfl rfl rfl rfl (and_lit 32 (M := 4294967296) rfl rfl (by omega) (by omega) (by omega)) ?_ | refine A_lit rfl rfl 22 1 _ rfl ud22 inf3 (.cons rfl .nil) (els := [[_]]) rfl (by exact (rfl : _ = List.map tI [_])) rfl (Nat.ne_of_beq_eq_false rfl) (Nat.le_of_ble_eq_true rfl) (Nat.le_of_ble_eq_true rfl) (.push qL qN) ?_ | refine uA ?_)) | refine uC ?_ | fail)
    all_goals first | (exfalso; omega) | skip
    refine ⟨(i + 1, k + 1, c + 1), ⟨by dsimp only; omega, by dsimp only; rw [hs]; simp; omega⟩, by dsimp only; omega, ?_⟩
    rw [hs]
    exact Wk.cq 2
   ·have hs : rdRow l (i + 1) m = rdRow l i m := rdRow_stop hk
    repeat' (first | ((with_reducible refine kAL ?_); (first | refine uI [0] (cN) ?_ | refine uA ?_)) | refine uC ?_ | fail)
    all_goals first | (exfalso; omega) | skip
    refine ⟨(i + 1, k, c), ⟨by dsimp only; omega, by dsimp only; rw [hs]; exact h3⟩, by dsimp only; omega, ?_⟩
    rw [hs]
    exact Wk.cq 2
  ·obtain rfl : i = n := by omega
   subst h3
   repeat' (first | ((with_reducible refine kAL ?_); (first | (refine zkD 6 rfl ?_; refine uA ?_; (try refine AL.wk (Wk.freeze 1 rfl 6 rfl (by first | exact .all (by first | (simp <;> fail) | fail) | fail) qN) ?_)) | refine uA ?_)) | refine uC ?_ | fail)
   all_goals first | (exfalso; omega) | (exact Fin.q Tryz.results86 (.cons (.tmp rfl) .nil) [])
end
section
theorem wpad_U {l : List Int} {n : Nat} (h : okU l) : okU (wpad l n) := by
 intro w hw
 obtain ⟨i, _, rfl⟩ := List.mem_map.1 hw
 rw [List.getD_eq_getElem?_getD]
 cases hx : l[i]? with
 | none => decide
 | some a => exact h a (List.mem_of_getElem? hx)
theorem resW_U (l : List Rst) : okU (l.map wordR) := by
 intro w hw
 obtain ⟨r, _, rfl⟩ := List.mem_map.1 hw
 exact wordR_b r
theorem putH_U (c : DConf) (h : DHall) : okU (putH c h) := by
 cases hf : fitsH c h
 ·unfold putH; rw [hf]; intro w hw; cases hw
 ·obtain ⟨h0, h1, h2, h3, h4, h5, h7, h8⟩ := fitsH_iff.1 hf
  have hs := chkC_shaped h0
  have hb := hs.h3 h1
  intro w hw
  unfold putH at hw
  rw [if_pos hf] at hw
  rcases List.mem_cons.1 hw with rfl | hw
  ·omega
  rcases List.mem_append.1 hw with hw | hw
  ·obtain ⟨x, hx, hw⟩ := List.mem_flatMap.1 hw
   obtain ⟨g1, g2, ⟨g3, g4⟩, _⟩ := chanOK_iff.1 (h7 x hx)
   rcases List.mem_cons.1 hw with rfl | hw
   ·have := bitI_b x.used; have := bitI_b x.closed; unfold headC; omega
   ·exact wpad_U (fun y hy => by have := g4 y hy; omega) w hw
  rcases List.mem_append.1 hw with hw | hw
  ·obtain ⟨x, hx, hw⟩ := List.mem_flatMap.1 hw
   obtain ⟨g1, g2, g3, g4⟩ := waitOK_b (h8 x hx)
   rcases List.mem_cons.1 hw with rfl | hw
   ·have := bitI_b x.on; unfold headW; omega
   ·refine wpad_U (fun y hy => ?_) w hw
    obtain ⟨k, hk, rfl⟩ := List.mem_map.1 hy
    exact wordK_b (g4 k hk)
  ·exact resW_U _ w hw
theorem putX_U (c : DConf) (x : DCells) : okU (putX c x) := by
 cases hf : fitsX c x
 ·unfold putX; rw [hf]; intro w hw; cases hw
 ·obtain ⟨h0, h1, h2, ⟨h3, h4⟩, _⟩ := fitsX_iff.1 hf
  have hs := chkC_shaped h0
  have hb := hs.h1 h1
  intro w hw
  unfold putX at hw
  rw [if_pos hf] at hw
  rcases List.mem_cons.1 hw with rfl | hw
  ·omega
  rcases List.mem_append.1 hw with hw | hw
  ·exact wpad_U (fun y hy => by have := h4 y hy; omega) w hw
  ·exact resW_U _ w hw
end
end Go.Proofs.YtbpgopomninedaaGreat
