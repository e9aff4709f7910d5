/- Joined: XTHallR, XTHallH, XTHallT, XTLaw12. -/
import Derived.Test.YtbpgopomninedaaGreatKAg
import Derived.Test.YtbpgopomninedaaGreatKAs
import Derived.Test.YtbpgopomninedaaGreatKAt
import Derived.Test.YtbpgopomninedaaGreatKAn
namespace Go.Proofs.YtbpgopomninedaaGreat
open Go.RowKit
set_option linter.unusedVariables false
set_option linter.unusedSimpArgs false
set_option linter.unnecessarySimpa false
set_option maxRecDepth 100000
set_option maxHeartbeats 64000000
section
attribute [local irreducible] AL AW RG Fin C Cd Cio thenQ blockQ retQ
set_option maxRecDepth 100000
structure HcR where
 q : Nat
 k : Nat
 O : List DChan
theorem rhcopy_c (h : DHall) (hh : okHl h) : Cd Tryz.prog 72 [aHl h] (.agg [i64 h.ticket, .sl 0 0 h.chans.length, .t (.lst (h.waits.map tWt)), .sl 1 0 h.done.length]) [.row 0 87 5 (h.chans.map tCh), .row 0 42 4 (h.done.map tR)] := by
 have h1 : (h.chans.map tCh).length = h.chans.length := List.length_map _
 have h1d : (h.done.map tR).length = h.done.length := List.length_map _
 have hc0 := hh.c
 have hd0 := hh.d
 have hw0 := wcopyR_c h.waits hh.w
 have hW : Cd Tryz.prog 113 [.ln (h.waits.map tWt)] (.t (.lst (h.waits.map tWt))) [] := by have hw0' := Cd.frz1 hw0 0 rfl (by repeat' (first | exact FzL.nil | apply FzL.cons | exact FzR.nlt | exact FzR.all (by first | rfl | (simp <;> fail) | (simp; omega)) | exact FzR.sl (by first | exact Nat.le_refl _ | (simp <;> fail) | (simp; omega)) | apply FzR.aggL | exact FzR.same _)) rfl; exact Cd.drop hw0' rfl
 refine Cd.enter' Tryz.func72 rfl Tryz.ntmps72 rfl ?_
 repeat' (first | refine uA ?_ | ((with_reducible refine kRG ?_); (first | refine uQ (hW) 0 ?_ | refine uR ?_)) | refine uC ?_ | refine AW.drawU (id := 1) mixed 2 qR ?_ | fail)
 all_goals first | (exfalso; omega) | skip
 refine AW.wk (Wk.ownB 3 1 rfl rfl 87 5 (.push rfl rfl) rfl) ?_
 refine AW.loopP (fun (x : HcR) => x.q ≤ h.chans.length ∧ x.O = h.chans.take x.q) (fun (x : HcR) => (pu (pu (pu (pu (pu (pu (fun _ => .any) 1 (.ptr 0 0)) 2 (.ptr 1 0)) 3 (.ptr 3 0)) 17 (.ln (h.chans.map tCh))) 18 (i64 (h.chans.map tCh).length)) 19 (i64 x.q))) (fun (x : HcR) => [.box 49 [i64 h.ticket, .ln (h.chans.map tCh), .ln (h.waits.map tWt), .ln (h.done.map tR)], .box 49 [i64 0, .nl, .nl, .nl], .row 0 42 4 (h.done.map tR), .box 49 [i64 h.ticket, .sl 4 x.k x.q, .t (.lst (h.waits.map tWt)), .sl 2 0 h.done.length], .row x.k 87 5 (x.O.map tCh)]) (fun (x : HcR) => h.chans.length - x.q) (⟨0, 0, []⟩) ?_ ?_ ?_
 ·exact ⟨Nat.zero_le _, rfl⟩
 ·exact Wk.cq 5
 ·rintro ⟨q, k, O⟩ ⟨h2, h3⟩
  dsimp only at h2 h3 ⊢
  have h6 : O.length = q := by rw [h3, List.length_take]; omega
  have h4 : (O.map tCh).length = q := by rw [List.length_map, h6]
  by_cases hq : q < h.chans.length
  ·obtain ⟨⟨g, cap, used, closed, buf⟩, hc⟩ : ∃ c, h.chans[q]? = some c := ⟨_, List.getElem?_eq_getElem hq⟩
   have hb := hh.b _ (List.mem_of_getElem? hc)
   have cC0 := ccopyR_c ⟨g, cap, used, closed, buf⟩ (by dsimp only at hb ⊢; omega)
   dsimp only [aC] at cC0
   have cC : Cd Tryz.prog 114 [.agg [i64 g, i64 cap, bo used, bo closed, .ln (buf.map tI)]] (.agg [i64 g, i64 cap, bo used, bo closed, .t (.lst (buf.map tI))]) [] := by have cC0' := Cd.frz1 cC0 0 rfl (by repeat' (first | exact FzL.nil | apply FzL.cons | exact FzR.nlt | exact FzR.all (by first | rfl | (simp <;> fail) | (simp; omega)) | exact FzR.sl (by first | exact Nat.le_refl _ | (simp <;> fail) | (simp; omega)) | apply FzR.aggL | exact FzR.same _)) rfl; exact Cd.drop cC0' rfl
   repeat' (first | refine uA ?_ | ((with_reducible refine kRG ?_); (first | refine R_append rfl rfl _ _ 45 rfl ud45 inf87 rfl rfl rfl (by (simp; omega)) (by exact .all rfl (by rfl)) qB qB (by exact app_one (f := tCh) (x := ⟨g, cap, used, closed, buf⟩) (by omega)) qN qS ?_ | refine uQ (cC) 0 ?_ | refine R_lit (N := 6) rfl rfl 45 1 _ rfl ud45 inf87 (.cons rfl .nil) (els := [[_, _, _, _, _]]) rfl (by exact (rfl : _ = List.map tCh [⟨g, cap, used, closed, buf⟩])) rfl (Nat.ne_of_beq_eq_false rfl) (Nat.le_of_ble_eq_true rfl) (Nat.le_of_ble_eq_true rfl) rfl qN ?_ | refine uR ?_)) | refine uC ?_ | refine AW.drawU (id := 5) mixed 2 qR ?_ | fail)
   all_goals first | (exfalso; omega) | skip
   refine ⟨⟨q + 1, k + 1, O ++ [⟨g, cap, used, closed, buf⟩]⟩, ⟨by dsimp only; omega, by dsimp only; rw [List.take_add_one, hc, h3]; rfl⟩, by dsimp only; omega, ?_⟩
   exact Wk.cq 5
  ·have e : q = h.chans.length := by omega
   subst e
   rw [List.take_length] at h3
   subst h3
   repeat' (first | refine uA ?_ | refine uC ?_ | fail)
   all_goals first | (exfalso; omega) | (exact Fin.q Tryz.results72 (.cons (.agg rfl rfl ud49 rfl inf49 (us := [_, _, _, _]) rfl rfl) .nil) [4, 2])
theorem rfind_c (h : DHall) (x : Int) (hx : sI x) (h0 : h.chans.length ≤ 2932031007402) : Cd Tryz.prog 116 [aHl h, i64 x] (.tup [i64 (fndP h x), bo (fndOk h x)]) [] := by
 have h1 : (h.chans.map tCh).length = h.chans.length := List.length_map _
 have cP := hplaceR_c x hx
 obtain ⟨n, hn⟩ := plP_nat x
 cases hp : plOk x
 ·have e := fnd_bad (h := h) hp
  rw [e, fnd_no e]
  rw [hp, hn] at cP
  refine Cd.enter' Tryz.func116 rfl Tryz.ntmps116 rfl ?_
  repeat' (first | ((with_reducible refine kAL ?_); (first | refine uK (cP) ?_ | refine uA ?_)) | refine uC ?_ | fail)
  all_goals first | (exfalso; omega) | (exact Fin.q Tryz.results116 (.cons (.tmp rfl) (.cons (.tmp rfl) .nil)) [])
 ·by_cases hl : n < h.chans.length
  ·obtain ⟨⟨g, cap, used, closed, buf⟩, hc⟩ : ∃ c, h.chans[n]? = some c := ⟨_, List.getElem?_eq_getElem hl⟩
   have e := fnd_at hp hn hc
   dsimp only at e
   rw [e.1, e.2]
   rw [hp, hn] at cP
   generalize plG x = pg at cP
   by_cases hg : g = pg
   ·subst hg
    rw [decide_eq_true rfl]
    cases used
    all_goals
     refine Cd.enter' Tryz.func116 rfl Tryz.ntmps116 rfl ?_
     repeat' (first | ((with_reducible refine kAL ?_); (first | refine uK (cP) ?_ | refine uA ?_)) | refine uC ?_ | refine kcp rfl (fun hc => ?_) (fun hc => ?_) | fail)
     all_goals first | (exfalso; omega) | (exfalso; exact hc rfl) | (exact Fin.q Tryz.results116 (.cons (.tmp rfl) (.cons (.tmp rfl) .nil)) [])
   ·rw [decide_eq_false hg]
    cases used
    all_goals
     refine Cd.enter' Tryz.func116 rfl Tryz.ntmps116 rfl ?_
     repeat' (first | ((with_reducible refine kAL ?_); (first | refine uK (cP) ?_ | refine uA ?_)) | refine uC ?_ | fail)
     all_goals first | (exfalso; omega) | (exfalso; exact hc rfl) | (exact Fin.q Tryz.results116 (.cons (.tmp rfl) (.cons (.tmp rfl) .nil)) [])
  ·have e := fnd_out hn hl
   rw [e, fnd_no e]
   rw [hp, hn] at cP
   refine Cd.enter' Tryz.func116 rfl Tryz.ntmps116 rfl ?_
   repeat' (first | ((with_reducible refine kAL ?_); (first | refine uK (cP) ?_ | refine uA ?_)) | refine uC ?_ | fail)
   all_goals first | (exfalso; omega) | (exact Fin.q Tryz.results116 (.cons (.tmp rfl) (.cons (.tmp rfl) .nil)) [])
abbrev hlH (m k : Nat) (h : DHall) : List Ob := [.box 49 [i64 h.ticket, .sl 1 0 m, .t (.lst (h.waits.map tWt)), .sl 2 0 k], .row 0 87 5 (h.chans.map tCh), .row 0 42 4 (h.done.map tR)]
theorem note_c (m k : Nat) (h : DHall) (t : Int) (r : Rst) (hk : h.done.length = k) (hk1 : k ≤ 4398046511104) :
  Cio Tryz.prog 78 [.ptr 0 0, i64 t, aR r] (hlH m k h) (.tup []) (hlH m k ⟨h.ticket, h.chans, h.waits, noteL h.done t r⟩) := by
 have h1k : (h.done.map tR).length = k := by rw [List.length_map, hk]
 obtain ⟨ra, rb, rc, rd⟩ := r
 dsimp only [hlH, aR]
 by_cases ht : 0 ≤ t ∧ t < k
 ·obtain ⟨j, rfl⟩ : ∃ j : Nat, t = j := ⟨t.toNat, by omega⟩
  rw [noteL_in (by omega)]
  obtain ⟨y, hy⟩ : ∃ y, h.done[j]? = some y := ⟨_, List.getElem?_eq_getElem (by omega)⟩
  refine Cio.enter' Tryz.func78 rfl Tryz.ntmps78 rfl qM ?_
  repeat' (first | refine uA ?_ | ((with_reducible refine kRG ?_); (first | refine R_store_rp rfl rfl 42 _ _ rfl inf42 (by decide) rfl rfl (by exact map_get (by assumption)) rfl rfl rfl (Nat.le_of_ble_eq_true rfl) (by exact map_set (f := tR) (x := ⟨ra, rb, rc, rd⟩)) qN ?_ | refine uR ?_)) | refine uC ?_ | refine AW.drawU (id := 2) mixed 0 qR ?_ | fail)
  all_goals first | (exfalso; omega) | (exact Fin.q Tryz.results78 .nil [])
 ·rw [noteL_out (by omega)]
  by_cases h0 : 0 ≤ t
  all_goals
   refine Cio.enter' Tryz.func78 rfl Tryz.ntmps78 rfl qM ?_
   repeat' (first | refine uA ?_ | refine uC ?_ | fail)
   all_goals first | (exfalso; omega) | (exact Fin.q Tryz.results78 .nil [])
theorem code_c (e : Int) : Cd Tryz.prog 73 [i64 e] (.agg [i64 0, i64 0, i64 e, i64 0]) [] := by
 refine Cd.enter' Tryz.func73 rfl Tryz.ntmps73 rfl ?_
 repeat' (first | refine uA ?_ | refine uC ?_ | fail)
 all_goals first | (exfalso; omega) | (exact Fin.q Tryz.results73 (.cons (.agg rfl rfl ud42 rfl inf42 (us := [_, _, _, _]) rfl rfl) .nil) [])
theorem handleR_c (p g : Int) : Cd Tryz.prog 115 [i64 p, i64 g] (i64 (hdl p g)) [] := by
 unfold hdl
 by_cases h1 : 0 ≤ p ∧ p ≤ 7 ∧ 1 ≤ g ∧ g ≤ 4095
 ·rw [if_pos h1]
  refine Cd.enter' Tryz.func115 rfl Tryz.ntmps115 rfl ?_
  repeat' (first | refine uA ?_ | refine uC ?_ | fail)
  all_goals first | (exfalso; omega) | (refine Fin.q Tryz.results115 (.cons (.tmp rfl) .nil) [] (hr := (.t ?_)))
  all_goals first | rfl | (congr 3; omega) | skip
 ·rw [if_neg h1]
  by_cases p1 : p < 0
  ·refine Cd.enter' Tryz.func115 rfl Tryz.ntmps115 rfl ?_
   repeat' (first | refine uA ?_ | refine uC ?_ | fail)
   all_goals first | (exfalso; omega) | (exact Fin.q Tryz.results115 (.cons (.tmp rfl) .nil) [])
  ·by_cases p2 : 7 < p
   ·refine Cd.enter' Tryz.func115 rfl Tryz.ntmps115 rfl ?_
    repeat' (first | refine uA ?_ | refine uC ?_ | fail)
    all_goals first | (exfalso; omega) | (exact Fin.q Tryz.results115 (.cons (.tmp rfl) .nil) [])
   ·by_cases p3 : g < 1
    ·refine Cd.enter' Tryz.func115 rfl Tryz.ntmps115 rfl ?_
     repeat' (first | refine uA ?_ | refine uC ?_ | fail)
     all_goals first | (exfalso; omega) | (exact Fin.q Tryz.results115 (.cons (.tmp rfl) .nil) [])
    ·refine Cd.enter' Tryz.func115 rfl Tryz.ntmps115 rfl ?_
     repeat' (first | refine uA ?_ | refine uC ?_ | fail)
     all_goals first | (exfalso; omega) | (exact Fin.q Tryz.results115 (.cons (.tmp rfl) .nil) [])
theorem ropen_c (c : DConf) (m k : Nat) (h : DHall) (cap : Int) (hm : h.chans.length = m) (hm1 : m ≤ 2932031007402) (hg : ∀ x ∈ h.chans, sI x.gen) :
  Cio Tryz.prog 74 [aCf c, .ptr 0 0, i64 cap] (hlH m k h) (aR (openH c h cap).2) (hlH m k (openH c h cap).1) := by
 have h1 : (h.chans.map tCh).length = m := by rw [List.length_map, hm]
 unfold openH
 by_cases hcap : cap < 0 ∨ c.cap < cap
 ·rw [if_pos hcap]
  dsimp only [hlH, aR]
  have cE := code_c 1
  by_cases h0 : cap < 0
  all_goals
   first | refine Cd.enter' Tryz.func74 rfl Tryz.ntmps74 rfl ?_ | refine Cio.enter' Tryz.func74 rfl Tryz.ntmps74 rfl qM ?_ | refine C.enter' Tryz.func74 rfl Tryz.ntmps74 rfl qM ?_
   repeat' (first | ((with_reducible refine kAL ?_); (first | refine uK (cE) ?_ | refine uA ?_)) | refine uC ?_ | fail)
   all_goals first | (exfalso; omega) | (exact Fin.q Tryz.results74 (.cons (.agg rfl rfl ud42 rfl inf42 (us := [_, _, _, _]) rfl rfl) .nil) [])
 ·rw [if_neg hcap]
  generalize hR : (if 0 ≤ ixF (okO c) h.chans then (cH h (h.chans.set (ixF (okO c) h.chans).toNat ⟨(chA h (ixF (okO c) h.chans)).gen + 1, cap, true, false, []⟩), (⟨0, 0, 0, hdl (ixF (okO c) h.chans) ((chA h (ixF (okO c) h.chans)).gen + 1)⟩ : Rst)) else (h, ⟨0, 0, if h.chans.any (fun x => !x.used) then 7 else 6, 0⟩)) = R
  dsimp only [hlH]
  first | refine Cd.enter' Tryz.func74 rfl Tryz.ntmps74 rfl ?_ | refine Cio.enter' Tryz.func74 rfl Tryz.ntmps74 rfl qM ?_ | refine C.enter' Tryz.func74 rfl Tryz.ntmps74 rfl qM ?_
  repeat' (first | refine uA ?_ | refine uC ?_ | fail)
  all_goals first | (exfalso; omega) | skip
  refine AW.loopP (fun (q : Nat) => q ≤ m ∧ ∀ j, j < q → ∀ b, h.chans[j]? = some b → okO c b = false) (fun (q : Nat) => (pu (pu (pu (pu (pu (pu (pu (fun _ => .any) 1 (.ptr 0 0)) 2 (i64 cap)) 3 (.ptr 3 0)) 6 (.ptr 4 0)) 7 (i64 (if (h.chans.take q).any (fun x => !x.used) then 7 else 6))) 23 (i64 m)) 24 (i64 q))) (fun (q : Nat) => [.box 49 [i64 h.ticket, .sl 1 0 m, .t (.lst (h.waits.map tWt)), .sl 2 0 k], .row 0 87 5 (h.chans.map tCh), .row 0 42 4 (h.done.map tR), .box 24 [i64 c.kind, i64 c.threads, i64 c.chans, i64 c.cap, i64 c.nodes, i64 c.retire, i64 c.patience, i64 c.tags, i64 c.seqs, i64 c.gens, .ln (c.start.map tI)], .box 42 [i64 0, i64 0, i64 0, i64 0]]) (fun (q : Nat) => m - q) (0) ?_ ?_ ?_
  ·exact ⟨Nat.zero_le _, fun j hj => by omega⟩
  ·exact Wk.cq 5
  ·rintro q ⟨hq, hno⟩
   by_cases hi : q < m
   ·obtain ⟨⟨g, cp, used, closed, buf⟩, hc⟩ : ∃ x, h.chans[q]? = some x := ⟨_, List.getElem?_eq_getElem (by omega)⟩
    have hgb := hg _ (List.mem_of_getElem? hc)
    unfold sI at hgb
    dsimp only at hgb
    have hany : ((h.chans.take (q + 1)).any fun x => !x.used) = (((h.chans.take q).any fun x => !x.used) || !used) := by rw [List.take_add_one, hc, List.any_append]; simp
    cases ho : okO c ⟨g, cp, used, closed, buf⟩
    ·have hno' : ∀ j, j < q + 1 → ∀ b, h.chans[j]? = some b → okO c b = false := fun j hj b hb => by
      by_cases ej : j = q
      ·subst ej; rw [hc] at hb; cases hb; exact ho
      ·exact hno j (by omega) b hb
     cases used
     ·have hge : ¬ g < min c.gens 4095 := by unfold okO at ho; simpa using ho
      generalize ((h.chans.take q).any fun x => !x.used) = sp at hany
      by_cases hg1 : g ≥ c.gens
      all_goals
       repeat' (first | refine uA ?_ | refine uR ?_ | refine uC ?_ | refine AW.drawU (id := 9) mixed 0 qR ?_ | fail)
       all_goals first | (exfalso; omega) | skip
       refine ⟨q + 1, ⟨by omega, hno'⟩, by omega, ?_⟩
       rw [hany]
       simp only [Bool.not_false, Bool.or_true, if_true]
       exact Wk.cq 5
     ·generalize ((h.chans.take q).any fun x => !x.used) = sp at hany
      repeat' (first | refine uA ?_ | refine uC ?_ | fail)
      all_goals first | (exfalso; omega) | skip
      refine ⟨q + 1, ⟨by omega, hno'⟩, by omega, ?_⟩
      rw [hany]
      simp only [Bool.not_true, Bool.or_false]
      exact Wk.cq 5
    ·have hix := ixF_at (okO c) h.chans q _ hno hc ho
     have hch : chA h (q : Int) = ⟨g, cp, used, closed, buf⟩ := by unfold chA; rw [Int.toNat_natCast, getD_of hc]
     rw [hix, if_pos (by omega), hch, Int.toNat_natCast] at hR
     have hlt : used = false ∧ g < min c.gens 4095 := by unfold okO at ho; simpa using ho
     obtain ⟨rfl, hge⟩ := hlt
     have hwr : IntKind.i64.wrap (g + 1) = g + 1 := wi
     rw [← hwr] at hR
     subst hR
     dsimp only [cH]
     have cH := handleR_c q (IntKind.i64.wrap (g + 1))
     repeat' (first | ((with_reducible refine kAL ?_); (first | refine A_store_rp rfl rfl 87 _ _ rfl inf87 (by decide) rfl rfl (by exact map_get (by assumption)) rfl rfl rfl (Nat.le_of_ble_eq_true rfl) (by exact map_set (f := tCh) (x := ⟨IntKind.i64.wrap (g + 1), cap, true, false, []⟩)) qN ?_ | refine uK (cH) ?_ | refine uA ?_)) | refine uR ?_ | refine uC ?_ | refine AW.drawU (id := 9) mixed 0 qR ?_ | fail)
     all_goals first | (exfalso; omega) | (exact Fin.q Tryz.results74 (.cons (.agg rfl rfl ud42 rfl inf42 (us := [_, _, _, _]) rfl rfl) .nil) [])
   ·have e : q = m := by omega
    subst e
    have hix := ixF_none (okO c) h.chans fun j b hb => hno j (by have := get_lt hb; omega) b hb
    rw [hix, if_neg (by omega)] at hR
    rw [← hm, List.take_length]
    subst hR
    dsimp only
    have cE := code_c (if h.chans.any (fun x => !x.used) then 7 else 6)
    generalize (if h.chans.any (fun x => !x.used) then (7 : Int) else 6) = sp at *
    rw [hm]
    repeat' (first | ((with_reducible refine kAL ?_); (first | refine uK (cE) ?_ | refine uA ?_)) | refine uC ?_ | fail)
    all_goals first | (exfalso; omega) | (exact Fin.q Tryz.results74 (.cons (.agg rfl rfl ud42 rfl inf42 (us := [_, _, _, _]) rfl rfl) .nil) [])
theorem rput_c (m k : Nat) (h : DHall) (j : Nat) (ch : DChan) (g : DG) (hc : h.chans[j]? = some ch) (hm : h.chans.length = m) (hk : h.done.length = k) (hm1 : m ≤ 2932031007402) (hk1 : k ≤ 4398046511104) (hg : g.told.length ≤ 1152921504606846976) :
  Cio Tryz.prog 119 [.ptr 0 0, i64 j, gR g] (hlH m k h) (.tup []) (hlH m k ⟨h.ticket, h.chans.set j g.c, g.l, tellL h.done g.told⟩) := by
 have h1 : (h.chans.map tCh).length = m := by rw [List.length_map, hm]
 obtain ⟨⟨g1, g2, g3, g4, gb⟩, gl, ⟨r1, r2, r3, r4⟩, gt⟩ := g
 have h2 : (gt.map tTd).length = gt.length := List.length_map _
 have hj := get_lt hc
 dsimp only [hlH, gR] at *
 refine Cio.enter' Tryz.func119 rfl Tryz.ntmps119 rfl qM ?_
 repeat' (first | refine uA ?_ | ((with_reducible refine kRG ?_); (first | refine R_store_rp rfl rfl 87 _ _ rfl inf87 (by decide) rfl rfl (by exact map_get (by assumption)) rfl rfl rfl (Nat.le_of_ble_eq_true rfl) (by exact map_set (f := tCh) (x := ⟨g1, g2, g3, g4, gb⟩)) qN ?_ | refine uR ?_)) | refine uC ?_ | refine AW.drawU (id := 1) mixed 0 qR ?_ | fail)
 all_goals first | (exfalso; omega) | skip
 refine AW.loopP (fun (q : Nat) => q ≤ gt.length) (fun (q : Nat) => (pu (pu (pu (pu (fun _ => .any) 0 (.ptr 0 0)) 22 (.t (.lst (gt.map tTd)))) 23 (i64 (gt.map tTd).length)) 24 (i64 q))) (fun (q : Nat) => [.box 49 [i64 h.ticket, .sl 1 0 m, .t (.lst (gl.map tWt)), .sl 2 0 k], .row 0 87 5 ((h.chans.set j ⟨g1, g2, g3, g4, gb⟩).map tCh), .row 0 42 4 ((tellL h.done (gt.take q)).map tR)]) (fun (q : Nat) => gt.length - q) (0) ?_ ?_ ?_
 ·exact Nat.zero_le _
 ·exact Wk.cq 3
 ·intro q hq
  by_cases hi : q < gt.length
  ·obtain ⟨⟨th, ⟨ra, rb, rc, rd⟩⟩, hx⟩ : ∃ x, gt[q]? = some x := ⟨_, List.getElem?_eq_getElem hi⟩
   have hs := tellL_next (d := h.done) hx
   have hD : (tellL h.done (gt.take q)).length = k := by rw [tellL_len, hk]
   have cN := note_c m k ⟨h.ticket, h.chans.set j ⟨g1, g2, g3, g4, gb⟩, gl, tellL h.done (gt.take q)⟩ th ⟨ra, rb, rc, rd⟩ hD hk1
   dsimp only [hlH, aR] at cN hs
   rw [← hs] at cN
   generalize tellL h.done (gt.take q) = D at *
   repeat' (first | ((with_reducible refine kAL ?_); (first | refine uI [0, 1, 2] (cN) ?_ | refine uA ?_)) | refine uC ?_ | fail)
   all_goals first | (exfalso; omega) | skip
   refine ⟨q + 1, by omega, by omega, ?_⟩
   exact Wk.cq 3
  ·have e : q = gt.length := by omega
   subst e
   rw [List.take_length] at *
   repeat' (first | refine uA ?_ | refine uC ?_ | fail)
   all_goals first | (exfalso; omega) | (exact Fin.q Tryz.results119 .nil [])
end
section
attribute [local irreducible] AL AW RG Fin C Cd Cio thenQ blockQ retQ
set_option maxRecDepth 100000
structure HnS where
 q : Nat
 k : Nat
 O : List Int
end
section
attribute [local irreducible] AL AW RG Fin C Cd Cio thenQ blockQ retQ
set_option maxRecDepth 100000
theorem stC_ge {s : List Int} {p i : Nat} (h : p ≤ i) : stC s p (i + 1) = stC s p i := by
 refine List.ext_getElem? fun j => ?_
 by_cases hj : j < p
 ·rw [stC_get s hj, stC_get s hj]
  by_cases q : j < s.length
  ·rw [if_pos ⟨by omega, q⟩, if_pos ⟨by omega, q⟩]
  ·rw [if_neg (by omega), if_neg (by omega)]
 ·rw [List.getElem?_eq_none (by rw [stC_len]; omega), List.getElem?_eq_none (by rw [stC_len]; omega)]
theorem stC_full (s : List Int) (p : Nat) : stC s p s.length = stC s p p := by
 refine List.ext_getElem? fun j => ?_
 by_cases hj : j < p
 ·rw [stC_get s hj, stC_get s hj]
  by_cases q : j < s.length
  ·rw [if_pos ⟨q, q⟩, if_pos ⟨hj, q⟩]
  ·rw [if_neg (by omega), if_neg (by omega)]
 ·rw [List.getElem?_eq_none (by rw [stC_len]; omega), List.getElem?_eq_none (by rw [stC_len]; omega)]
theorem hstart_c (c : DConf) (hs0 : c.start.length ≤ 1152921504606846976) : Cd Tryz.prog 38 [aCf c] (.agg [i64 0, .sl 0 0 (plN c), .sl 1 0 (thN c), .sl 2 0 (thN c)]) [.row 0 87 5 ((stC c.start (plN c) (plN c)).map tCh), .row 0 90 4 ((List.replicate (thN c) (⟨false, 0, 0, []⟩ : DWait)).map tWt), .row 0 42 4 ((List.replicate (thN c) (⟨0, 0, 0, 0⟩ : Rst)).map tR)] := by
 have h1 : (c.start.map tI).length = c.start.length := List.length_map _
 have hp : ((plN c : Nat) : Int) = max (min c.chans 8) 0 := by have := plN_e c; omega
 have ht : ((thN c : Nat) : Int) = max (min c.threads 64) 0 := by have := thN_e c; omega
 have hp8 := (plN_e c).2
 have ht64 := (thN_e c).2
 generalize plN c = p at *
 generalize thN c = th at *
 refine Cd.enter' Tryz.func38 rfl Tryz.ntmps38 rfl ?_
 repeat' (first | refine uA ?_ | ((with_reducible refine kRG ?_); (first | refine R_make (N := 2) rfl rfl 45 _ _ rfl ud45 inf87 rfl (zs := [(.v (.int .i64 0)), (.v (.int .i64 0)), (.v (.bool false)), (.v (.bool false)), .lst []]) rfl rfl rfl p (by omega) (by omega) qB qB (by exact rep_map (f := tCh) (x := ⟨_, _, _, _, []⟩)) rfl qN ?_ | refine R_make (N := 3) rfl rfl 46 _ _ rfl ud46 inf90 rfl (zs := [(.v (.bool false)), (.v (.int .i64 0)), (.v (.int .i64 0)), .lst []]) rfl rfl rfl th (by omega) (by omega) qB qB (by exact rep_map (f := tWt) (x := ⟨_, _, _, []⟩)) rfl qN ?_ | refine R_make (N := 4) rfl rfl 47 _ _ rfl ud47 inf42 rfl (zs := [(.v (.int .i64 0)), (.v (.int .i64 0)), (.v (.int .i64 0)), (.v (.int .i64 0))]) rfl rfl rfl th (by omega) (by omega) qB qB (by exact rep_map (f := tR) (x := ⟨_, _, _, _⟩)) rfl qN ?_ | refine uR ?_)) | refine uC ?_ | refine AW.drawU (id := 1) mixed 0 qR ?_ | refine AW.drawU (id := 2) mixed 4 qR ?_ | fail)
 all_goals first | (exfalso; omega) | skip
 refine AW.loopP (fun (i : Nat) => i ≤ c.start.length) (fun (i : Nat) => (pu (pu (pu (pu (pu (pu (pu (fun _ => .any) 1 (.ptr 0 0)) 2 (.ptr 1 0)) 3 (i64 p)) 5 (.ptr 5 0)) 24 (.ln (c.start.map tI))) 25 (i64 (c.start.map tI).length)) 26 (i64 i))) (fun (i : Nat) => [.box 24 [i64 c.kind, i64 c.threads, i64 c.chans, i64 c.cap, i64 c.nodes, i64 c.retire, i64 c.patience, i64 c.tags, i64 c.seqs, i64 c.gens, .ln (c.start.map tI)], .box 49 [i64 0, .nl, .nl, .nl], .row 0 87 5 ((stC c.start p i).map tCh), .row 0 90 4 ((List.replicate th (⟨false, 0, 0, []⟩ : DWait)).map tWt), .row 0 42 4 ((List.replicate th (⟨0, 0, 0, 0⟩ : Rst)).map tR), .box 49 [i64 0, .sl 2 0 p, .sl 3 0 th, .sl 4 0 th]]) (fun (i : Nat) => c.start.length - i) (0) ?_ ?_ ?_
 ·exact Nat.zero_le _
 ·rw [stC_zero, hp]
  exact Wk.cq 6
 ·intro i hi
  have hL := stC_len c.start p i
  have hL2 : ((stC c.start p i).map tCh).length = p := by rw [List.length_map, hL]
  by_cases hc1 : i < c.start.length
  ·obtain ⟨x, hx⟩ : ∃ x, c.start[i]? = some x := ⟨_, List.getElem?_eq_getElem hc1⟩
   by_cases hip : i < p
   ·have hg : (stC c.start p i)[i]? = some ⟨0, 0, false, false, []⟩ := by rw [stC_get _ hip, if_neg (by omega)]
    have hs := stC_next hip hx
    generalize stC c.start p i = L0 at *
    clear hp ht hs0
    repeat' (first | ((with_reducible refine kAL ?_); (first | refine A_store_rp rfl rfl 87 _ _ rfl inf87 (by decide) rfl rfl (by exact map_get (by assumption)) rfl rfl rfl (Nat.le_of_ble_eq_true rfl) (by exact map_set (f := tCh) (x := ⟨1, x, true, false, []⟩)) qN ?_ | refine uA ?_)) | refine uC ?_ | fail)
    all_goals first | (exfalso; omega) | skip
    refine ⟨i + 1, by omega, by omega, ?_⟩
    rw [hs]
    exact Wk.cq 6
   ·have hs : stC c.start p (i + 1) = stC c.start p i := stC_ge (by omega)
    generalize stC c.start p i = L0 at *
    clear hp ht
    repeat' (first | refine uA ?_ | refine uC ?_ | fail)
    all_goals first | (exfalso; omega) | skip
    refine ⟨i + 1, by omega, by omega, ?_⟩
    rw [hs]
    exact Wk.cq 6
  ·have e : i = c.start.length := by omega
   subst e
   rw [stC_full]
   repeat' (first | refine uA ?_ | refine uC ?_ | fail)
   all_goals first | (exfalso; omega) | (exact Fin.q Tryz.results38 (.cons (.agg rfl rfl ud49 rfl inf49 (us := [_, _, _, _]) rfl rfl) .nil) [2, 3, 4])
end
section
attribute [local irreducible] AL AW RG Fin C Cd Cio thenQ blockQ retQ
set_option maxRecDepth 100000
def h12 : DHall := ⟨0, [⟨1, 0, true, false, []⟩, ⟨0, 0, false, false, []⟩], [⟨false, 0, 0, []⟩, ⟨false, 0, 0, []⟩], [⟨0, 0, 0, 0⟩, ⟨0, 0, 0, 0⟩]⟩
theorem apF_c (c : DConf) (h : DHall) (t n : Int) (q : DReq) (hq : okQ h q) (hh : okHl h) :
  Cd Tryz.prog 29 [fCf c, aHl h, i64 t, i64 n, aRq q] (.agg [i64 (applyH c h t n q).ticket, .t (.lst ((applyH c h t n q).chans.map tCh)), .t (.lst ((applyH c h t n q).waits.map tWt)), .t (.lst ((applyH c h t n q).done.map tR))]) [] := by
 have h0 := apply_c c h t n q hq hh
 have e1 := (applyH_len c h t n q).1
 have e2 := (applyH_len c h t n q).2
 generalize applyH c h t n q = g at *
 rw [← e1, ← e2] at h0
 have h0' := Cd.frz1 h0 0 rfl (by repeat' (first | exact FzL.nil | apply FzL.cons | exact FzR.nlt | exact FzR.all (by first | rfl | (simp <;> fail) | (simp; omega)) | exact FzR.sl (by first | exact Nat.le_refl _ | (simp <;> fail) | (simp; omega)) | apply FzR.aggL | exact FzR.same _)) rfl; have h0'' := Cd.frz1 h0' 1 rfl (by repeat' (first | exact FzL.nil | apply FzL.cons | exact FzR.nlt | exact FzR.all (by first | rfl | (simp <;> fail) | (simp; omega)) | exact FzR.sl (by first | exact Nat.le_refl _ | (simp <;> fail) | (simp; omega)) | apply FzR.aggL | exact FzR.same _)) rfl; exact Cd.drop h0'' rfl
theorem stF_c (c : DConf) (hs : c.start.length ≤ 1152921504606846976) : Cd Tryz.prog 38 [aCf c] (.agg [i64 (startH c).ticket, .t (.lst ((startH c).chans.map tCh)), .t (.lst ((startH c).waits.map tWt)), .t (.lst ((startH c).done.map tR))]) [] := by
 have h0 := hstart_c c hs
 have l := startH_ln c
 have e1 := l.c
 have e2 := l.w
 have e3 := l.d
 have hh : Cd Tryz.prog 38 [aCf c] (.agg [i64 (startH c).ticket, .sl 0 0 (startH c).chans.length, .sl 1 0 (startH c).waits.length, .sl 2 0 (startH c).done.length]) [.row 0 87 5 ((startH c).chans.map tCh), .row 0 90 4 ((startH c).waits.map tWt), .row 0 42 4 ((startH c).done.map tR)] := by rw [e1, e2, e3]; exact h0
 generalize startH c = g at *
 have hh' := Cd.frz1 hh 0 rfl (by repeat' (first | exact FzL.nil | apply FzL.cons | exact FzR.nlt | exact FzR.all (by first | rfl | (simp <;> fail) | (simp; omega)) | exact FzR.sl (by first | exact Nat.le_refl _ | (simp <;> fail) | (simp; omega)) | apply FzR.aggL | exact FzR.same _)) rfl; have hh'' := Cd.frz1 hh' 1 rfl (by repeat' (first | exact FzL.nil | apply FzL.cons | exact FzR.nlt | exact FzR.all (by first | rfl | (simp <;> fail) | (simp; omega)) | exact FzR.sl (by first | exact Nat.le_refl _ | (simp <;> fail) | (simp; omega)) | apply FzR.aggL | exact FzR.same _)) rfl; have hh''' := Cd.frz1 hh'' 2 rfl (by repeat' (first | exact FzL.nil | apply FzL.cons | exact FzR.nlt | exact FzR.all (by first | rfl | (simp <;> fail) | (simp; omega)) | exact FzR.sl (by first | exact Nat.le_refl _ | (simp <;> fail) | (simp; omega)) | apply FzR.aggL | exact FzR.same _)) rfl; exact Cd.drop hh''' rfl
end
end Go.Proofs.YtbpgopomninedaaGreat
