/- Joined: XTHallA, XTHallB. -/
import Derived.Test.YtbpgopomninedaaGreatKAg
import Derived.Test.YtbpgopomninedaaGreatKAn
import Derived.Test.YtbpgopomninedaaGreatKAr
import Derived.Test.YtbpgopomninedaaGreatKAq
namespace Go.Proofs.YtbpgopomninedaaGreat
open Go.RowKit
set_option linter.unusedVariables false
set_option linter.unusedSimpArgs false
set_option linter.unnecessarySimpa false
set_option maxRecDepth 100000
set_option maxHeartbeats 64000000
section
attribute [local irreducible] AL AW RG Fin C Cd Cio thenQ blockQ retQ
set_option maxRecDepth 100000
theorem fnd_at {h : DHall} {x : Int} {n : Nat} {c : DChan} (h1 : plOk x = true) (h2 : plP x = n) (hc : h.chans[n]? = some c) : fndOk h x = (c.used && decide (c.gen = plG x)) ∧ fndP h x = if (c.used && decide (c.gen = plG x)) = true then (n : Int) else 0 := by
 have hl := get_lt hc
 have hg : chA h (n : Int) = c := by unfold chA; rw [Int.toNat_natCast, getD_of hc]
 have e : fndOk h x = (c.used && decide (c.gen = plG x)) := by unfold fndOk; rw [h1, h2, hg, decide_eq_true (by omega)]; simp
 exact ⟨e, by unfold fndP; rw [e, h2]⟩
theorem fnd_out {h : DHall} {x : Int} {n : Nat} (h2 : plP x = n) (hc : ¬ n < h.chans.length) : fndOk h x = false := by unfold fndOk; rw [h2, decide_eq_false (by omega)]; simp
theorem fnd_bad {h : DHall} {x : Int} (h1 : plOk x = false) : fndOk h x = false := by unfold fndOk; rw [h1]; simp
theorem plP_nat (x : Int) : ∃ n : Nat, plP x = n := by
 by_cases hk : 8 ≤ x ∧ x ≤ 32767
 ·rw [(pl_yes hk.1 hk.2).1]; exact ⟨(x % 8).toNat, by omega⟩
 ·rw [(pl_no hk).1]; exact ⟨0, rfl⟩
theorem find_c (h : DHall) (x : Int) (hx : sI x) (h0 : h.chans.length ≤ 2932031007402) : Cd Tryz.prog 137 [aHl h, i64 x] (.tup [i64 (fndP h x), bo (fndOk h x)]) [] := by
 have h1 : (h.chans.map tCh).length = h.chans.length := List.length_map _
 have cP := hplace_c x hx
 obtain ⟨n, hn⟩ := plP_nat x
 cases hp : plOk x
 ·have e := fnd_bad (h := h) hp
  rw [e, fnd_no e]
  rw [hp, hn] at cP
  refine Cd.enter' Tryz.func137 rfl Tryz.ntmps137 rfl ?_
  repeat' (first | ((with_reducible refine kAL ?_); (first | refine uK (cP) ?_ | refine uA ?_)) | refine uC ?_ | fail)
  all_goals first | (exfalso; omega) | (exact Fin.q Tryz.results137 (.cons (.tmp rfl) (.cons (.tmp rfl) .nil)) [])
 ·by_cases hl : n < h.chans.length
  ·obtain ⟨⟨g, cap, used, closed, buf⟩, hc⟩ : ∃ c, h.chans[n]? = some c := ⟨_, List.getElem?_eq_getElem hl⟩
   have e := fnd_at hp hn hc
   dsimp only at e
   rw [e.1, e.2]
   rw [hp, hn] at cP
   generalize plG x = pg at cP
   by_cases hg : g = pg
   ·subst hg
    rw [decide_eq_true rfl]
    cases used
    all_goals
     refine Cd.enter' Tryz.func137 rfl Tryz.ntmps137 rfl ?_
     repeat' (first | ((with_reducible refine kAL ?_); (first | refine uK (cP) ?_ | refine uA ?_)) | refine uC ?_ | fail)
     all_goals first | (exfalso; omega) | (exact Fin.q Tryz.results137 (.cons (.tmp rfl) (.cons (.tmp rfl) .nil)) [])
   ·rw [decide_eq_false hg]
    cases used
    all_goals
     refine Cd.enter' Tryz.func137 rfl Tryz.ntmps137 rfl ?_
     repeat' (first | ((with_reducible refine kAL ?_); (first | refine uK (cP) ?_ | refine uA ?_)) | refine uC ?_ | fail)
     all_goals first | (exfalso; omega) | (exact Fin.q Tryz.results137 (.cons (.tmp rfl) (.cons (.tmp rfl) .nil)) [])
  ·have e := fnd_out hn hl
   rw [e, fnd_no e]
   rw [hp, hn] at cP
   refine Cd.enter' Tryz.func137 rfl Tryz.ntmps137 rfl ?_
   repeat' (first | ((with_reducible refine kAL ?_); (first | refine uK (cP) ?_ | refine uA ?_)) | refine uC ?_ | fail)
   all_goals first | (exfalso; omega) | (exact Fin.q Tryz.results137 (.cons (.tmp rfl) (.cons (.tmp rfl) .nil)) [])
theorem hcopy_c (h : DHall) (hh : okHl h) : Cd Tryz.prog 67 [aHl h] (.agg [i64 h.ticket, .sl 0 0 h.chans.length, .t (.lst (h.waits.map tWt)), .sl 1 0 h.done.length]) [.row 0 87 5 (h.chans.map tCh), .row 0 42 4 (h.done.map tR)] := by
 have h1 : (h.chans.map tCh).length = h.chans.length := List.length_map _
 have hc0 := hh.c
 have hw0 := wcopy_c h.waits hh.w
 have hW : Cd Tryz.prog 102 [.ln (h.waits.map tWt)] (.t (.lst (h.waits.map tWt))) [] := by have hw0' := Cd.frz1 hw0 0 rfl (by repeat' (first | exact FzL.nil | apply FzL.cons | exact FzR.nlt | exact FzR.all (by first | rfl | (simp <;> fail) | (simp; omega)) | exact FzR.sl (by first | exact Nat.le_refl _ | (simp <;> fail) | (simp; omega)) | apply FzR.aggL | exact FzR.same _)) rfl; exact Cd.drop hw0' rfl
 refine Cd.enter' Tryz.func67 rfl Tryz.ntmps67 rfl ?_
 repeat' (first | refine uA ?_ | ((with_reducible refine kRG ?_); (first | refine uQ (clone_Ch h.chans hh.c) 2 ?_ | refine uQ (hW) 0 ?_ | refine uQ (clone_R h.done hh.d) 3 ?_ | refine uR ?_)) | refine uC ?_ | refine AW.drawU (id := 1) mixed 6 qR ?_ | fail)
 all_goals first | (exfalso; omega) | skip
 refine AW.loopP (fun (q : Nat) => q ≤ h.chans.length) (fun (q : Nat) => (pu (pu (pu (pu (fun _ => .any) 1 (.ptr 0 0)) 2 (.ptr 1 0)) 18 (i64 h.chans.length)) 19 (i64 q))) (fun (q : Nat) => [.box 49 [i64 h.ticket, .sl 2 0 h.chans.length, .t (.lst (h.waits.map tWt)), .sl 3 0 h.done.length], .box 49 [i64 0, .nl, .nl, .nl], .row 0 87 5 (h.chans.map tCh), .row 0 42 4 (h.done.map tR)]) (fun (q : Nat) => h.chans.length - q) (0) ?_ ?_ ?_
 ·exact Nat.zero_le _
 ·exact Wk.cq 4
 ·intro q hq
  by_cases hi : q < h.chans.length
  ·obtain ⟨⟨g, cap, used, closed, buf⟩, hc⟩ : ∃ c, h.chans[q]? = some c := ⟨_, List.getElem?_eq_getElem hi⟩
   have hb := hh.b _ (List.mem_of_getElem? hc)
   have cC0 := ccopy_c ⟨g, cap, used, closed, buf⟩ (by dsimp only at hb ⊢; omega)
   dsimp only [aC] at cC0
   have cC : Cd Tryz.prog 103 [.agg [i64 g, i64 cap, bo used, bo closed, .ln (buf.map tI)]] (.agg [i64 g, i64 cap, bo used, bo closed, .t (.lst (buf.map tI))]) [] := by have cC0' := Cd.frz1 cC0 0 rfl (by repeat' (first | exact FzL.nil | apply FzL.cons | exact FzR.nlt | exact FzR.all (by first | rfl | (simp <;> fail) | (simp; omega)) | exact FzR.sl (by first | exact Nat.le_refl _ | (simp <;> fail) | (simp; omega)) | apply FzR.aggL | exact FzR.same _)) rfl; exact Cd.drop cC0' rfl
   have hs : h.chans.set q ⟨g, cap, used, closed, buf⟩ = h.chans := by
    obtain ⟨hq', e⟩ := List.getElem?_eq_some_iff.1 hc
    rw [← e]; exact List.set_getElem_self hq'
   repeat' (first | refine uA ?_ | ((with_reducible refine kRG ?_); (first | refine uQ (cC) 0 ?_ | refine R_store_rp rfl rfl 87 _ _ rfl inf87 (by decide) rfl rfl (by exact map_get (by assumption)) rfl rfl rfl (Nat.le_of_ble_eq_true rfl) (by exact map_set (f := tCh) (x := ⟨g, cap, used, closed, buf⟩)) qN ?_ | refine uR ?_)) | refine uC ?_ | refine AW.drawU (id := 5) mixed 2 qR ?_ | fail)
   all_goals first | (exfalso; omega) | skip
   rw [hs]
   refine ⟨q + 1, by omega, by omega, ?_⟩
   exact Wk.cq 4
  ·repeat' (first | refine uA ?_ | refine uC ?_ | fail)
   all_goals first | (exfalso; omega) | (exact Fin.q Tryz.results67 (.cons (.agg rfl rfl ud49 rfl inf49 (us := [_, _, _, _]) rfl rfl) .nil) [2, 3])
abbrev stB (c : DConf) (m k : Nat) (h : DHall) (t n : Int) : Ob := .box 103 [i64 h.ticket, .sl 1 0 m, .t (.lst (h.waits.map tWt)), .sl 2 0 k, i64 c.kind, i64 c.threads, i64 c.chans, i64 c.cap, i64 c.nodes, i64 c.retire, i64 c.patience, i64 c.tags, i64 c.seqs, i64 c.gens, .t (.lst (c.start.map tI)), i64 t, i64 n]
abbrev stH (c : DConf) (m k : Nat) (h : DHall) (t n : Int) : List Ob := [stB c m k h t n, .row 0 87 5 (h.chans.map tCh), .row 0 42 4 (h.done.map tR)]
theorem tell_c (c : DConf) (m k : Nat) (h : DHall) (t n : Int) (l : List DTold) (hk : h.done.length = k) (hl : l.length ≤ 1152921504606846976) (hk1 : k ≤ 4398046511104) :
  Cio Tryz.prog 144 [.ptr 0 0, .ln (l.map tTd)] (stH c m k h t n) (.tup []) (stH c m k ⟨h.ticket, h.chans, h.waits, tellL h.done l⟩ t n) := by
 have h1 : (l.map tTd).length = l.length := List.length_map _
 dsimp only [stH, stB]
 refine Cio.enter' Tryz.func144 rfl Tryz.ntmps144 rfl qM ?_
 repeat' (first | refine uA ?_ | refine uC ?_ | fail)
 refine AW.loopP (fun (q : Nat) => q ≤ l.length) (fun (q : Nat) => (pu (pu (pu (pu (fun _ => .any) 0 (.ptr 0 0)) 6 (.ln (l.map tTd))) 7 (i64 (l.map tTd).length)) 8 (i64 q))) (fun (q : Nat) => [.box 103 [i64 h.ticket, .sl 1 0 m, .t (.lst (h.waits.map tWt)), .sl 2 0 k, i64 c.kind, i64 c.threads, i64 c.chans, i64 c.cap, i64 c.nodes, i64 c.retire, i64 c.patience, i64 c.tags, i64 c.seqs, i64 c.gens, .t (.lst (c.start.map tI)), i64 t, i64 n], .row 0 87 5 (h.chans.map tCh), .row 0 42 4 ((tellL h.done (l.take q)).map tR)]) (fun (q : Nat) => l.length - q) (0) ?_ ?_ ?_
 ·exact Nat.zero_le _
 ·exact Wk.cq 3
 ·intro q hq
  have hD : (tellL h.done (l.take q)).length = k := by rw [tellL_len, hk]
  have hD2 : ((tellL h.done (l.take q)).map tR).length = k := by rw [List.length_map, hD]
  by_cases hi : q < l.length
  ·obtain ⟨⟨th, ⟨ra, rb, rc, rd⟩⟩, hx⟩ : ∃ x, l[q]? = some x := ⟨_, List.getElem?_eq_getElem hi⟩
   have hs := tellL_next (d := h.done) hx
   dsimp only at hs
   by_cases ht : 0 ≤ th ∧ th < k
   ·obtain ⟨j, rfl⟩ : ∃ j : Nat, th = j := ⟨th.toNat, by omega⟩
    rw [noteL_in (by omega)] at hs
    obtain ⟨y, hy⟩ : ∃ y, (tellL h.done (l.take q))[j]? = some y := ⟨_, List.getElem?_eq_getElem (by omega)⟩
    generalize tellL h.done (l.take q) = D at *
    repeat' (first | refine uA ?_ | ((with_reducible refine kRG ?_); (first | refine R_store_rp rfl rfl 42 _ _ rfl inf42 (by decide) rfl rfl (by exact map_get (by assumption)) rfl rfl rfl (Nat.le_of_ble_eq_true rfl) (by exact map_set (f := tR) (x := ⟨ra, rb, rc, rd⟩)) qN ?_ | refine uR ?_)) | refine uC ?_ | refine AW.drawU (id := 3) mixed 0 qR ?_ | refine AW.drawU (id := 4) mixed 0 qR ?_ | fail)
    all_goals first | (exfalso; omega) | skip
    refine ⟨q + 1, by omega, by omega, ?_⟩
    rw [hs]
    exact Wk.cq 3
   ·rw [noteL_out (by omega)] at hs
    generalize tellL h.done (l.take q) = D at *
    by_cases h0 : 0 ≤ th
    all_goals
     repeat' (first | refine uA ?_ | refine uR ?_ | refine uC ?_ | refine AW.drawU (id := 3) mixed 0 qR ?_ | fail)
     all_goals first | (exfalso; omega) | skip
     refine ⟨q + 1, by omega, by omega, ?_⟩
     rw [hs]
     exact Wk.cq 3
  ·have e : q = l.length := by omega
   subst e
   rw [List.take_length] at *
   repeat' (first | refine uA ?_ | refine uC ?_ | fail)
   all_goals first | (exfalso; omega) | (exact Fin.q Tryz.results144 .nil [])
theorem handle_c (p g : Int) : Cd Tryz.prog 136 [i64 p, i64 g] (i64 (hdl p g)) [] := by
 unfold hdl
 by_cases h1 : 0 ≤ p ∧ p ≤ 7 ∧ 1 ≤ g ∧ g ≤ 4095
 ·rw [if_pos h1]
  refine Cd.enter' Tryz.func136 rfl Tryz.ntmps136 rfl ?_
  repeat' (first | refine uA ?_ | refine uC ?_ | fail)
  all_goals first | (exfalso; omega) | (exact Fin.q Tryz.results136 (.cons (.tmp rfl) .nil) [])
 ·rw [if_neg h1]
  by_cases p1 : p < 0
  ·refine Cd.enter' Tryz.func136 rfl Tryz.ntmps136 rfl ?_
   repeat' (first | refine uA ?_ | refine uC ?_ | fail)
   all_goals first | (exfalso; omega) | (exact Fin.q Tryz.results136 (.cons (.tmp rfl) .nil) [])
  ·by_cases p2 : 7 < p
   ·refine Cd.enter' Tryz.func136 rfl Tryz.ntmps136 rfl ?_
    repeat' (first | refine uA ?_ | refine uC ?_ | fail)
    all_goals first | (exfalso; omega) | (exact Fin.q Tryz.results136 (.cons (.tmp rfl) .nil) [])
   ·by_cases p3 : g < 1
    ·refine Cd.enter' Tryz.func136 rfl Tryz.ntmps136 rfl ?_
     repeat' (first | refine uA ?_ | refine uC ?_ | fail)
     all_goals first | (exfalso; omega) | (exact Fin.q Tryz.results136 (.cons (.tmp rfl) .nil) [])
    ·refine Cd.enter' Tryz.func136 rfl Tryz.ntmps136 rfl ?_
     repeat' (first | refine uA ?_ | refine uC ?_ | fail)
     all_goals first | (exfalso; omega) | (exact Fin.q Tryz.results136 (.cons (.tmp rfl) .nil) [])
theorem open_c (c : DConf) (m k : Nat) (h : DHall) (t n cap : Int) (hm : h.chans.length = m) (hm1 : m ≤ 2932031007402) (hg : ∀ x ∈ h.chans, sI x.gen) :
  Cio Tryz.prog 104 [.ptr 0 0, i64 cap] (stH c m k h t n) (aR (openH c h cap).2) (stH c m k (openH c h cap).1 t n) := by
 have h1 : (h.chans.map tCh).length = m := by rw [List.length_map, hm]
 unfold openH
 by_cases hcap : cap < 0 ∨ c.cap < cap
 ·rw [if_pos hcap]
  dsimp only [stH, stB, aR]
  by_cases h0 : cap < 0
  all_goals
   refine Cio.enter' Tryz.func104 rfl Tryz.ntmps104 rfl qM ?_
   repeat' (first | refine uA ?_ | refine uC ?_ | fail)
   all_goals first | (exfalso; omega) | (exact Fin.q Tryz.results104 (.cons (.agg rfl rfl ud42 rfl inf42 (us := [_, _, _, _]) rfl rfl) .nil) [])
 ·rw [if_neg hcap]
  generalize hR : (if 0 ≤ ixF (okO c) h.chans then (cH h (h.chans.set (ixF (okO c) h.chans).toNat ⟨(chA h (ixF (okO c) h.chans)).gen + 1, cap, true, false, []⟩), (⟨0, 0, 0, hdl (ixF (okO c) h.chans) ((chA h (ixF (okO c) h.chans)).gen + 1)⟩ : Rst)) else (h, ⟨0, 0, if h.chans.any (fun x => !x.used) then 7 else 6, 0⟩)) = R
  dsimp only [stH, stB]
  refine Cio.enter' Tryz.func104 rfl Tryz.ntmps104 rfl qM ?_
  repeat' (first | refine uA ?_ | refine uC ?_ | fail)
  all_goals first | (exfalso; omega) | skip
  refine AW.loopP (fun (q : Nat) => q ≤ m ∧ ∀ j, j < q → ∀ b, h.chans[j]? = some b → okO c b = false) (fun (q : Nat) => (pu (pu (pu (pu (pu (pu (pu (fun _ => .any) 0 (.ptr 0 0)) 1 (i64 cap)) 4 (.ptr 3 0)) 5 (bo ((h.chans.take q).any fun x => !x.used))) 24 (.sl 1 0 m)) 25 (i64 m)) 26 (i64 q))) (fun (q : Nat) => [.box 103 [i64 h.ticket, .sl 1 0 m, .t (.lst (h.waits.map tWt)), .sl 2 0 k, i64 c.kind, i64 c.threads, i64 c.chans, i64 c.cap, i64 c.nodes, i64 c.retire, i64 c.patience, i64 c.tags, i64 c.seqs, i64 c.gens, .t (.lst (c.start.map tI)), i64 t, i64 n], .row 0 87 5 (h.chans.map tCh), .row 0 42 4 (h.done.map tR), .box 42 [i64 0, i64 0, i64 0, i64 0]]) (fun (q : Nat) => m - q) (0) ?_ ?_ ?_
  ·exact ⟨Nat.zero_le _, fun j hj => by omega⟩
  ·exact Wk.cq 4
  ·rintro q ⟨hq, hno⟩
   by_cases hi : q < m
   ·obtain ⟨⟨g, cp, used, closed, buf⟩, hc⟩ : ∃ x, h.chans[q]? = some x := ⟨_, List.getElem?_eq_getElem (by omega)⟩
    have hgb := hg _ (List.mem_of_getElem? hc)
    unfold sI at hgb
    dsimp only at hgb
    have hany : ((h.chans.take (q + 1)).any fun x => !x.used) = (((h.chans.take q).any fun x => !x.used) || !used) := by rw [List.take_add_one, hc, List.any_append]; simp
    cases ho : okO c ⟨g, cp, used, closed, buf⟩
    ·have hno' : ∀ j, j < q + 1 → ∀ b, h.chans[j]? = some b → okO c b = false := fun j hj b hb => by
      by_cases ej : j = q
      ·subst ej; rw [hc] at hb; cases hb; exact ho
      ·exact hno j (by omega) b hb
     cases used
     ·have hge : ¬ g < min c.gens 4095 := by unfold okO at ho; simpa using ho
      generalize ((h.chans.take q).any fun x => !x.used) = sp at hany
      repeat' (first | refine uA ?_ | refine uR ?_ | refine uC ?_ | refine AW.drawU (id := 8) mixed 0 qR ?_ | fail)
      all_goals first | (exfalso; omega) | skip
      refine ⟨q + 1, ⟨by omega, hno'⟩, by omega, ?_⟩
      rw [hany]
      simp only [Bool.not_false, Bool.or_true]
      exact Wk.cq 4
     ·generalize ((h.chans.take q).any fun x => !x.used) = sp at hany
      repeat' (first | refine uA ?_ | refine uC ?_ | fail)
      all_goals first | (exfalso; omega) | skip
      refine ⟨q + 1, ⟨by omega, hno'⟩, by omega, ?_⟩
      rw [hany]
      simp only [Bool.not_true, Bool.or_false]
      exact Wk.cq 4
    ·have hix := ixF_at (okO c) h.chans q _ hno hc ho
     have hch : chA h (q : Int) = ⟨g, cp, used, closed, buf⟩ := by unfold chA; rw [Int.toNat_natCast, getD_of hc]
     rw [hix, if_pos (by omega), hch, Int.toNat_natCast] at hR
     have hlt : used = false ∧ g < min c.gens 4095 := by unfold okO at ho; simpa using ho
     obtain ⟨rfl, hge⟩ := hlt
     subst hR
     dsimp only [cH]
     have cH := handle_c q (g + 1)
     repeat' (first | ((with_reducible refine kAL ?_); (first | refine uK (cH) ?_ | refine uA ?_)) | ((with_reducible refine kRG ?_); (first | refine R_store_rp rfl rfl 87 _ _ rfl inf87 (by decide) rfl rfl (by exact map_get (by assumption)) rfl rfl rfl (Nat.le_of_ble_eq_true rfl) (by exact map_set (f := tCh) (x := ⟨g + 1, cap, true, false, []⟩)) qN ?_ | refine uR ?_)) | refine uC ?_ | refine AW.drawU (id := 8) mixed 0 qR ?_ | refine AW.drawU (id := 10) mixed 0 qR ?_ | fail)
     all_goals first | (exfalso; omega) | (exact Fin.q Tryz.results104 (.cons (.agg rfl rfl ud42 rfl inf42 (us := [_, _, _, _]) rfl rfl) .nil) [])
   ·have e : q = m := by omega
    subst e
    have hix := ixF_none (okO c) h.chans fun j b hb => hno j (by have := get_lt hb; omega) b hb
    rw [hix, if_neg (by omega)] at hR
    rw [← hm, List.take_length]
    subst hR
    generalize (h.chans.any fun x => !x.used) = sp
    dsimp only
    cases sp
    all_goals
     repeat' (first | refine uA ?_ | refine uC ?_ | fail)
     all_goals first | (exfalso; omega) | (exact Fin.q Tryz.results104 (.cons (.agg rfl rfl ud42 rfl inf42 (us := [_, _, _, _]) rfl rfl) .nil) [])
theorem idleC_e (c : DChan) (x : Int) (l : List DWait) (hl : okW l) : Cd Tryz.prog 138 [aC c, i64 x, .ln (l.map tWt)] (bo (idleC c x l)) [] := idle_c c x l hl
theorem free_c (c : DConf) (m k : Nat) (h : DHall) (t n x : Int) (hx : sI x) (hm : h.chans.length = m) (hk : h.done.length = k) (hm1 : m ≤ 2932031007402) (hw : okW h.waits) :
  Cio Tryz.prog 105 [.ptr 0 0, i64 x] (stH c m k h t n) (aR (freeH h x).2) (stH c m k (freeH h x).1 t n) := by
 have h1 : (h.chans.map tCh).length = m := by rw [List.length_map, hm]
 have h1k : (h.done.map tR).length = k := by rw [List.length_map, hk]
 have cF := find_c h x hx (by omega)
 unfold freeH
 cases hf : fndOk h x
 ·rw [if_neg (by simp)]
  rw [hf, fnd_no hf] at cF
  dsimp only [stH, stB, aR]
  refine Cio.enter' Tryz.func105 rfl Tryz.ntmps105 rfl qM ?_
  repeat' (first | ((with_reducible refine kAL ?_); (first | refine uK (cF) ?_ | refine uA ?_)) | refine uC ?_ | fail)
  all_goals first | (exfalso; omega) | (exact Fin.q Tryz.results105 (.cons (.agg rfl rfl ud42 rfl inf42 (us := [_, _, _, _]) rfl rfl) .nil) [])
 ·obtain ⟨j, ch, e1, e2, hc, hu, hgn, e3, e4, e5⟩ := fnd_yes hf
  rw [if_pos rfl, e3, e4, Int.toNat_natCast]
  rw [hf, e3] at cF
  have cI := idleC_e ch x h.waits hw
  cases hi : idleC ch x h.waits
  ·rw [hi] at cI
   rw [if_neg (by simp)]
   obtain ⟨g, cap, used, closed, buf⟩ := ch
   dsimp only [stH, stB, aR, aC] at cI ⊢
   refine Cio.enter' Tryz.func105 rfl Tryz.ntmps105 rfl qM ?_
   repeat' (first | ((with_reducible refine kAL ?_); (first | refine uK (cF) ?_ | refine uA ?_)) | ((with_reducible refine kRG ?_); (first | refine uQ (cI) 0 ?_ | refine uR ?_)) | refine uC ?_ | refine AW.drawU (id := 4) mixed 0 qR ?_ | fail)
   all_goals first | (exfalso; omega) | (exact Fin.q Tryz.results105 (.cons (.agg rfl rfl ud42 rfl inf42 (us := [_, _, _, _]) rfl rfl) .nil) [])
  ·rw [hi] at cI
   rw [if_pos rfl]
   obtain ⟨g, cap, used, closed, buf⟩ := ch
   dsimp only [stH, stB, aR, aC, cH] at cI ⊢
   refine Cio.enter' Tryz.func105 rfl Tryz.ntmps105 rfl qM ?_
   repeat' (first | ((with_reducible refine kAL ?_); (first | refine uK (cF) ?_ | refine uA ?_)) | ((with_reducible refine kRG ?_); (first | refine uQ (cI) 0 ?_ | refine R_store_rp rfl rfl 87 _ _ rfl inf87 (by decide) rfl rfl (by exact map_get (by assumption)) rfl rfl rfl (Nat.le_of_ble_eq_true rfl) (by exact map_set (f := tCh) (x := ⟨g, 0, false, false, []⟩)) qN ?_ | refine uR ?_)) | refine uC ?_ | refine AW.drawU (id := 4) mixed 0 qR ?_ | refine AW.drawU (id := 6) mixed 0 qR ?_ | fail)
   all_goals first | (exfalso; omega) | (exact Fin.q Tryz.results105 (.cons (.agg rfl rfl ud42 rfl inf42 (us := [_, _, _, _]) rfl rfl) .nil) [])
end
section
attribute [local irreducible] AL AW RG Fin C Cd Cio thenQ blockQ retQ
set_option maxRecDepth 100000
theorem badK_iff (x : DCase) : badK x = true ↔ ¬ (x.dir = 1 ∨ x.dir = 2) ∨ x.value < 0 ∨ 4294967295 < x.value := by unfold badK; exact decide_eq_true_iff
theorem any_of {α : Type} {p : α → Bool} {l : List α} {q : Nat} {a : α} (h : l[q]? = some a) (hp : p a = true) : l.any p = true := List.any_eq_true.2 ⟨a, List.mem_of_getElem? h, hp⟩
theorem any_none {α : Type} {p : α → Bool} {l : List α} (h : ∀ (j : Nat) b, l[j]? = some b → p b = false) : l.any p = false := by
 cases e : l.any p
 ·rfl
 ·obtain ⟨a, ha, hp⟩ := List.any_eq_true.1 e
  obtain ⟨j, hj⟩ := List.getElem?_of_mem ha
  rw [h j a hj] at hp; cases hp
theorem hcases_c (c : DConf) (m k : Nat) (h : DHall) (t n : Int) (l : List DCase) (hl : ∀ x ∈ l, sCs x) (hl0 : l.length ≤ 1152921504606846976) (hm : h.chans.length = m) (hk : h.done.length = k) (hm1 : m ≤ 2932031007402) :
  Cio Tryz.prog 139 [.ptr 0 0, .ln (l.map tCs)] (stH c m k h t n) (i64 (casesE h l)) (stH c m k h t n) := by
 have h1 : (h.chans.map tCh).length = m := by rw [List.length_map, hm]
 have h1k : (h.done.map tR).length = k := by rw [List.length_map, hk]
 have h2 : (l.map tCs).length = l.length := List.length_map _
 dsimp only [stH, stB]
 by_cases hlen : l.length = 0 ∨ 3 < l.length
 ·have e : casesE h l = 1 := by unfold casesE; rw [if_pos (by rcases hlen with h | h; exact .inl h; exact .inr (.inl h))]
  rw [e]
  by_cases h0 : l.length = 0
  all_goals
   refine Cio.enter' Tryz.func139 rfl Tryz.ntmps139 rfl qM ?_
   repeat' (first | refine uA ?_ | refine uC ?_ | fail)
   all_goals first | (exfalso; omega) | (exact Fin.q Tryz.results139 (.cons (.tmp rfl) .nil) [])
 ·generalize hE : casesE h l = E
  refine Cio.enter' Tryz.func139 rfl Tryz.ntmps139 rfl qM ?_
  repeat' (first | refine uA ?_ | refine uC ?_ | fail)
  all_goals first | (exfalso; omega) | skip
  refine AW.loopP (fun (q : Nat) => q ≤ l.length ∧ ∀ j, j < q → ∀ b, l[j]? = some b → badK b = false) (fun (q : Nat) => (pu (pu (pu (pu (pu (pu (fun _ => .any) 0 (.ptr 0 0)) 1 (.ln (l.map tCs))) 4 (i64 0)) 19 (.ln (l.map tCs))) 20 (i64 (l.map tCs).length)) 21 (i64 q))) (fun (q : Nat) => [.box 103 [i64 h.ticket, .sl 1 0 m, .t (.lst (h.waits.map tWt)), .sl 2 0 k, i64 c.kind, i64 c.threads, i64 c.chans, i64 c.cap, i64 c.nodes, i64 c.retire, i64 c.patience, i64 c.tags, i64 c.seqs, i64 c.gens, .t (.lst (c.start.map tI)), i64 t, i64 n], .row 0 87 5 (h.chans.map tCh), .row 0 42 4 (h.done.map tR)]) (fun (q : Nat) => l.length - q) (0) ?_ ?_ ?_
  ·exact ⟨Nat.zero_le _, fun j hj => by omega⟩
  ·exact Wk.cq 3
  ·rintro q ⟨hq, hno⟩
   by_cases hi : q < l.length
   ·obtain ⟨⟨d, hd, v⟩, hx⟩ : ∃ x, l[q]? = some x := ⟨_, List.getElem?_eq_getElem hi⟩
    cases hb : badK ⟨d, hd, v⟩
    ·have hb2 : ¬ (¬ (d = 1 ∨ d = 2) ∨ v < 0 ∨ 4294967295 < v) := fun e => by rw [(badK_iff ⟨d, hd, v⟩).2 e] at hb; cases hb
     have hno' : ∀ j, j < q + 1 → ∀ b, l[j]? = some b → badK b = false := fun j hj b hjb => by
      by_cases ej : j = q
      ·subst ej; rw [hx] at hjb; cases hjb; exact hb
      ·exact hno j (by omega) b hjb
     by_cases d1 : d = 1
     all_goals
      repeat' (first | refine uA ?_ | refine uC ?_ | fail)
      all_goals first | (exfalso; omega) | skip
      refine ⟨q + 1, ⟨by omega, hno'⟩, by omega, ?_⟩
      exact Wk.cq 3
    ·have hb2 := (badK_iff ⟨d, hd, v⟩).1 hb
     dsimp only at hb2
     have e : E = 1 := by rw [← hE]; unfold casesE; rw [if_pos (.inr (.inr (any_of hx hb)))]
     subst e
     by_cases d1 : d = 1
     ·by_cases v1 : v < 0
      all_goals
       repeat' (first | refine uA ?_ | refine uC ?_ | fail)
       all_goals first | (exfalso; omega) | (exact Fin.q Tryz.results139 (.cons (.tmp rfl) .nil) [])
     ·by_cases d2 : d = 2
      ·by_cases v1 : v < 0
       all_goals
        repeat' (first | refine uA ?_ | refine uC ?_ | fail)
        all_goals first | (exfalso; omega) | (exact Fin.q Tryz.results139 (.cons (.tmp rfl) .nil) [])
      ·repeat' (first | refine uA ?_ | refine uC ?_ | fail)
       all_goals first | (exfalso; omega) | (exact Fin.q Tryz.results139 (.cons (.tmp rfl) .nil) [])
   ·have hbad : l.any badK = false := any_none fun j b hj => hno j (by have := get_lt hj; omega) b hj
    clear hno
    repeat' (first | refine uA ?_ | refine uC ?_ | fail)
    all_goals first | (exfalso; omega) | skip
    refine AW.loopP (fun (p : Nat) => p ≤ l.length ∧ ∀ j, j < p → ∀ b, l[j]? = some b → fndOk h b.handle = true) (fun (p : Nat) => (pu (pu (pu (pu (pu (fun _ => .any) 0 (.ptr 0 0)) 4 (i64 0)) 44 (.ln (l.map tCs))) 45 (i64 (l.map tCs).length)) 46 (i64 p))) (fun (p : Nat) => [.box 103 [i64 h.ticket, .sl 1 0 m, .t (.lst (h.waits.map tWt)), .sl 2 0 k, i64 c.kind, i64 c.threads, i64 c.chans, i64 c.cap, i64 c.nodes, i64 c.retire, i64 c.patience, i64 c.tags, i64 c.seqs, i64 c.gens, .t (.lst (c.start.map tI)), i64 t, i64 n], .row 0 87 5 (h.chans.map tCh), .row 0 42 4 (h.done.map tR)]) (fun (p : Nat) => l.length - p) (0) ?_ ?_ ?_
    ·exact ⟨Nat.zero_le _, fun j hj => by omega⟩
    ·exact Wk.cq 3
    ·rintro p ⟨hp, hno⟩
     by_cases hi : p < l.length
     ·obtain ⟨⟨d, hd, v⟩, hx⟩ : ∃ x, l[p]? = some x := ⟨_, List.getElem?_eq_getElem hi⟩
      have cF := find_c h hd (hl _ (List.mem_of_getElem? hx)).2.1 (by omega)
      cases hf : fndOk h hd
      ·rw [hf] at cF
       have e : E = 8 := by rw [← hE]; unfold casesE; rw [hbad, if_neg (by rintro (h | h | h); exact hlen (.inl h); exact hlen (.inr h); cases h), if_pos (any_of hx (by simp [hf]))]
       subst e
       repeat' (first | refine uA ?_ | ((with_reducible refine kRG ?_); (first | refine uQ (cF) 0 ?_ | refine uR ?_)) | refine uC ?_ | refine AW.drawU (id := 12) mixed 0 qR ?_ | fail)
       all_goals first | (exfalso; omega) | (exact Fin.q Tryz.results139 (.cons (.tmp rfl) .nil) [])
      ·rw [hf] at cF
       have hno' : ∀ j, j < p + 1 → ∀ b, l[j]? = some b → fndOk h b.handle = true := fun j hj b hjb => by
        by_cases ej : j = p
        ·subst ej; rw [hx] at hjb; cases hjb; exact hf
        ·exact hno j (by omega) b hjb
       repeat' (first | refine uA ?_ | ((with_reducible refine kRG ?_); (first | refine uQ (cF) 0 ?_ | refine uR ?_)) | refine uC ?_ | refine AW.drawU (id := 12) mixed 0 qR ?_ | fail)
       all_goals first | (exfalso; omega) | skip
       refine ⟨p + 1, ⟨by omega, hno'⟩, by omega, ?_⟩
       exact Wk.cq 3
     ·have e : E = 0 := by rw [← hE]; unfold casesE; rw [hbad, if_neg (by rintro (h | h | h); exact hlen (.inl h); exact hlen (.inr h); cases h), any_none fun j b hj => by simp [hno j (by have := get_lt hj; omega) b hj]]; rfl
      subst e
      repeat' (first | refine uA ?_ | refine uC ?_ | fail)
      all_goals first | (exfalso; omega) | (exact Fin.q Tryz.results139 (.cons (.tmp rfl) .nil) [])
abbrev aCs (x : DCase) : AV := .agg [i64 x.dir, i64 x.handle, i64 x.value]
theorem one_c (c : DConf) (m k : Nat) (h : DHall) (t n which : Int) (x : DCase) (hx : sCs x) (hm : h.chans.length = m) (hk : h.done.length = k) (hh : okHl h) (hf : fndOk h x.handle = true) :
  Cio Tryz.prog 141 [.ptr 0 0, i64 which, aCs x] (stH c m k h t n) (aR (oneH h which x).2) (stH c m k (oneH h which x).1 t n) := by
 have h1 : (h.chans.map tCh).length = m := by rw [List.length_map, hm]
 have h1k : (h.done.map tR).length = k := by rw [List.length_map, hk]
 have hm1 := hh.c
 have hk1 := hh.d
 have cF := find_c h x.handle hx.2.1 hm1
 obtain ⟨j, ch, e1, e2, hc, hu, hgn, e3, e4, e5⟩ := fnd_yes hf
 have hb := hh.b ch (List.mem_of_getElem? hc)
 have cD := do_c ch x.handle h.waits x.dir x.value hh.w hb
 obtain ⟨hg1, hg2, hg3, hg4⟩ := @doG_ok ch x.handle h.waits x.dir x.value hh.w
 unfold oneH gotH
 rw [hf, e3] at cF
 rw [e3, e4, Int.toNat_natCast]
 generalize doG ch x.handle h.waits x.dir x.value = g at *
 obtain ⟨⟨g1, g2, g3, g4, gb⟩, gl, ⟨r1, r2, r3, r4⟩, gt⟩ := g
 obtain ⟨d, hd, v⟩ := x
 obtain ⟨c1, c2, c3, c4, cb⟩ := ch
 dsimp only at *
 have cT := tell_c c m k ⟨h.ticket, h.chans.set j ⟨g1, g2, g3, g4, gb⟩, gl, h.done⟩ t n gt hk (by omega) (by omega)
 unfold gA at cD
 dsimp only [stH, stB, aR, aCs, aC] at *
 refine Cio.enter' Tryz.func141 rfl Tryz.ntmps141 rfl qM ?_
 repeat' (first | ((with_reducible refine kAL ?_); (first | refine uI [0, 1, 2] (cT) ?_ | refine uA ?_)) | ((with_reducible refine kRG ?_); (first | refine uQ (cF) 0 ?_ | refine uQ (cD) 0 ?_ | refine R_store_rp rfl rfl 87 _ _ rfl inf87 (by decide) rfl rfl (by exact map_get (by assumption)) rfl rfl rfl (Nat.le_of_ble_eq_true rfl) (by exact map_set (f := tCh) (x := ⟨g1, g2, g3, g4, gb⟩)) qN ?_ | refine uR ?_)) | refine uC ?_ | refine AW.drawU (id := 1) mixed 0 qR ?_ | refine AW.drawU (id := 2) mixed 2 qR ?_ | refine AW.drawU (id := 3) mixed 0 qR ?_ | fail)
 all_goals first | (exfalso; omega) | (exact Fin.q Tryz.results141 (.cons (.agg rfl rfl ud42 rfl inf42 (us := [_, _, _, _]) rfl rfl) .nil) [])
theorem choose_c (c : DConf) (m k : Nat) (h : DHall) (t n : Int) (q : DReq) (hq : ∀ x ∈ q.cases, sCs x) (hq0 : q.cases.length ≤ 5864062014805) (ht : -9223372036854775808 ≤ h.ticket) (hm : h.chans.length = m) (hk : h.done.length = k) (hh : okHl h) :
  Cio Tryz.prog 106 [.ptr 0 0, aRq q] (stH c m k h t n) (aR (chooseH h t n q).2) (stH c m k (chooseH h t n q).1 t n) := by
 have h1 : (h.chans.map tCh).length = m := by rw [List.length_map, hm]
 have h1k : (h.done.map tR).length = k := by rw [List.length_map, hk]
 have h2 : (q.cases.map tCs).length = q.cases.length := List.length_map _
 have hm1 := hh.c
 have cC := hcases_c c m k h t n q.cases hq (by omega) hm hk (by omega)
 unfold chooseH
 obtain ⟨qk, qa, qv, qd, cs⟩ := q
 dsimp only at *
 by_cases hE : casesE h cs = 0
 ·rw [hE] at cC
  rw [if_neg (by omega)]
  obtain ⟨h3, h4, -, h5⟩ := casesE_0 hE
  generalize hR : (if 0 ≤ ixF (rdyK h) cs then oneH h (ixF (rdyK h) cs) (cs.getD (ixF (rdyK h) cs).toNat default)
   else if qd then (h, (⟨0, 0, 10, 0⟩ : Rst))
   else if 4294967295 ≤ h.ticket then (h, ⟨0, 0, 7, 0⟩)
   else if putOk h.waits t then (⟨h.ticket + 1, h.chans, putW h.waits t ⟨false, h.ticket, n, cs⟩, h.done⟩, ⟨0, 0, 14, 0⟩)
   else (h, ⟨0, 0, 13, 0⟩)) = R
  dsimp only [stH, stB, aRq] at *
  refine Cio.enter' Tryz.func106 rfl Tryz.ntmps106 rfl qM ?_
  repeat' (first | ((with_reducible refine kAL ?_); (first | refine uI [0, 1, 2] (cC) ?_ | refine uA ?_)) | refine uC ?_ | fail)
  all_goals first | (exfalso; omega) | skip
  refine AW.loopP (fun (p : Nat) => p ≤ cs.length ∧ ∀ j, j < p → ∀ b, cs[j]? = some b → rdyK h b = false) (fun (p : Nat) => (pu (pu (pu (pu (pu (pu (fun _ => .any) 0 (.ptr 0 0)) 3 (.ptr 3 0)) 4 (.ptr 4 0)) 21 (.ln (cs.map tCs))) 22 (i64 (cs.map tCs).length)) 23 (i64 p))) (fun (p : Nat) => [.box 103 [i64 h.ticket, .sl 1 0 m, .t (.lst (h.waits.map tWt)), .sl 2 0 k, i64 c.kind, i64 c.threads, i64 c.chans, i64 c.cap, i64 c.nodes, i64 c.retire, i64 c.patience, i64 c.tags, i64 c.seqs, i64 c.gens, .t (.lst (c.start.map tI)), i64 t, i64 n], .row 0 87 5 (h.chans.map tCh), .row 0 42 4 (h.done.map tR), .box 28 [i64 qk, i64 qa, i64 qv, bo qd, .ln (cs.map tCs)], .box 42 [i64 0, i64 0, i64 0, i64 0]]) (fun (p : Nat) => cs.length - p) (0) ?_ ?_ ?_
  ·exact ⟨Nat.zero_le _, fun j hj => by omega⟩
  ·exact Wk.cq 5
  ·rintro p ⟨hp, hno⟩
   by_cases hi : p < cs.length
   ·obtain ⟨x, hx⟩ : ∃ x, cs[p]? = some x := ⟨_, List.getElem?_eq_getElem hi⟩
    have hxm := List.mem_of_getElem? hx
    have hf := h5 x hxm
    have cF := find_c h x.handle (hq x hxm).2.1 hm1
    obtain ⟨j, ch, e1, e2, hc, hu, hgn, e3, e4, e5⟩ := fnd_yes hf
    rw [hf, e3] at cF
    have cR := ready_c ch x.handle h.waits x.dir hh.w
    have hr : rdyK h x = rdyC ch x.handle h.waits x.dir := by unfold rdyK; rw [e3, e4]
    rw [← hr] at cR
    have cO := one_c c m k h t n p x (hq x hxm) hm hk hh hf
    cases hrd : rdyK h x
    ·rw [hrd] at cR
     have hno' : ∀ j, j < p + 1 → ∀ b, cs[j]? = some b → rdyK h b = false := fun j hj b hjb => by
      by_cases ej : j = p
      ·subst ej; rw [hx] at hjb; cases hjb; exact hrd
      ·exact hno j (by omega) b hjb
     clear cO
     obtain ⟨d, hd, v⟩ := x
     obtain ⟨c1, c2, c3, c4, cb⟩ := ch
     dsimp only [aC] at cF cR
     repeat' (first | refine uA ?_ | ((with_reducible refine kRG ?_); (first | refine uQ (cF) 0 ?_ | refine uQ (cR) 0 ?_ | refine uR ?_)) | refine uC ?_ | refine AW.drawU (id := 7) mixed 0 qR ?_ | refine AW.drawU (id := 8) mixed 0 qR ?_ | fail)
     all_goals first | (exfalso; omega) | skip
     refine ⟨p + 1, ⟨by omega, hno'⟩, by omega, ?_⟩
     exact Wk.cq 5
    ·rw [hrd] at cR
     have hix := ixF_at (rdyK h) cs p x hno hx hrd
     rw [hix, if_pos (by omega), Int.toNat_natCast, getD_of hx] at hR
     subst hR
     have hl1 : (oneH h p x).1.chans.length = m := by unfold oneH; rw [List.length_set, hm]
     obtain ⟨d, hd, v⟩ := x
     generalize oneH h p ⟨d, hd, v⟩ = O at *
     obtain ⟨⟨o1, o2, o3, o4⟩, ⟨r1, r2, r3, r4⟩⟩ := O
     obtain ⟨c1, c2, c3, c4, cb⟩ := ch
     dsimp only [aC, aR, aCs, stH, stB] at *
     repeat' (first | ((with_reducible refine kAL ?_); (first | refine uI [0, 1, 2] (cO) ?_ | refine uA ?_)) | ((with_reducible refine kRG ?_); (first | refine uQ (cF) 0 ?_ | refine uQ (cR) 0 ?_ | refine uR ?_)) | refine uC ?_ | refine AW.drawU (id := 7) mixed 0 qR ?_ | refine AW.drawU (id := 8) mixed 0 qR ?_ | fail)
     all_goals first | (exfalso; omega) | (exact Fin.q Tryz.results106 (.cons (.agg rfl rfl ud42 rfl inf42 (us := [_, _, _, _]) rfl rfl) .nil) [])
   ·have hix := ixF_none (rdyK h) cs fun j b hb => hno j (by have := get_lt hb; omega) b hb
    rw [hix, if_neg (by omega)] at hR
    clear hno
    cases qd
    ·rw [if_neg (by simp)] at hR
     by_cases htk : 4294967295 ≤ h.ticket
     ·rw [if_pos htk] at hR
      subst hR
      dsimp only [aR]
      repeat' (first | refine uA ?_ | refine uC ?_ | fail)
      all_goals first | (exfalso; omega) | (exact Fin.q Tryz.results106 (.cons (.agg rfl rfl ud42 rfl inf42 (us := [_, _, _, _]) rfl rfl) .nil) [])
     ·rw [if_neg htk] at hR
      have cP := wput_c h.waits t ⟨false, h.ticket, n, cs⟩ hh.w hq0
      dsimp only at cP
      cases hpo : putOk h.waits t
      ·rw [hpo] at cP hR
       rw [if_neg (by simp)] at hR
       subst hR
       dsimp only [aR]
       repeat' (first | refine uA ?_ | ((with_reducible refine kRG ?_); (first | refine uQ (cP) 5 ?_ | refine uR ?_)) | refine uC ?_ | refine AW.drawU (id := 15) mixed 2 qR ?_ | fail)
       all_goals first | (exfalso; omega) | (exact Fin.q Tryz.results106 (.cons (.agg rfl rfl ud42 rfl inf42 (us := [_, _, _, _]) rfl rfl) .nil) [])
      ·rw [hpo] at cP hR
       rw [if_pos rfl] at hR
       subst hR
       have hpl : (putW h.waits t ⟨false, h.ticket, n, cs⟩).length = h.waits.length := putW_len ..
       dsimp only [aR]
       generalize putW h.waits t ⟨false, h.ticket, n, cs⟩ = W at *
       have cP2 : Cd Tryz.prog 142 [.ln (h.waits.map tWt), i64 t, .agg [bo false, i64 h.ticket, i64 n, .ln (cs.map tCs)]] (.tup [.t (.lst (W.map tWt)), bo true]) [] := by have cP' := Cd.frz cP 0 rfl (by repeat' (first | exact FzL.nil | apply FzL.cons | exact FzR.nlt | exact FzR.all (by first | rfl | (simp <;> fail) | (simp; omega)) | exact FzR.sl (by first | exact Nat.le_refl _ | (simp <;> fail) | (simp; omega)) | apply FzR.aggL | exact FzR.same _)) rfl; exact Cd.drop cP' rfl
       repeat' (first | refine uA ?_ | ((with_reducible refine kRG ?_); (first | refine uQ (cP2) 0 ?_ | refine uR ?_)) | refine uC ?_ | refine AW.drawU (id := 15) mixed 2 qR ?_ | fail)
       all_goals first | (exfalso; omega) | (exact Fin.q Tryz.results106 (.cons (.agg rfl rfl ud42 rfl inf42 (us := [_, _, _, _]) rfl rfl) .nil) [])
    ·rw [if_pos rfl] at hR
     subst hR
     dsimp only [aR]
     repeat' (first | refine uA ?_ | refine uC ?_ | fail)
     all_goals first | (exfalso; omega) | (exact Fin.q Tryz.results106 (.cons (.agg rfl rfl ud42 rfl inf42 (us := [_, _, _, _]) rfl rfl) .nil) [])
 ·rw [if_pos hE]
  generalize casesE h cs = E at *
  dsimp only [stH, stB, aR, aRq] at *
  first | refine Cd.enter' Tryz.func106 rfl Tryz.ntmps106 rfl ?_ | refine Cio.enter' Tryz.func106 rfl Tryz.ntmps106 rfl qM ?_ | refine C.enter' Tryz.func106 rfl Tryz.ntmps106 rfl qM ?_
  repeat' (first | ((with_reducible refine kAL ?_); (first | refine uI [0, 1, 2] (cC) ?_ | refine uA ?_)) | refine uC ?_ | fail)
  all_goals first | (exfalso; omega) | (exact Fin.q Tryz.results106 (.cons (.agg rfl rfl ud42 rfl inf42 (us := [_, _, _, _]) rfl rfl) .nil) [])
end
end Go.Proofs.YtbpgopomninedaaGreat
