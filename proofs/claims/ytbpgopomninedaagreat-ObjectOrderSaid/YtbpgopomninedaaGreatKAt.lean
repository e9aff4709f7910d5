/- Joined: XTHallD, XTShutR. -/
import Derived.Test.YtbpgopomninedaaGreatKAg
import Derived.Test.YtbpgopomninedaaGreatKAs
import Derived.Test.YtbpgopomninedaaGreatKAm
import Derived.Test.YtbpgopomninedaaGreatKAn
import Derived.Test.YtbpgopomninedaaGreatKAd
namespace Go.Proofs.YtbpgopomninedaaGreat
open Go.RowKit
set_option linter.unusedVariables false
set_option linter.unusedSimpArgs false
set_option linter.unnecessarySimpa false
set_option maxRecDepth 100000
set_option maxHeartbeats 64000000
section
attribute [local irreducible] AL AW RG Fin C Cd Cio thenQ blockQ retQ
set_option maxRecDepth 100000
theorem shutG_b {c : DChan} {x : Int} {l : List DWait} (hl : okW l) : okW (shutG c x l).l ∧ (shutG c x l).l.length = l.length ∧ (shutG c x l).c.buf = c.buf ∧ (shutG c x l).told.length ≤ l.length := by
 unfold shutG
 split
 ·have := cuts_ok (onS l x) l hl
  exact ⟨this.1, this.2, rfl, by dsimp only; rw [List.length_map]; exact (onS_b l x).2.1⟩
 ·exact ⟨hl, rfl, rfl, Nat.zero_le _⟩
theorem onS_c (l : List DWait) (h : Int) (hl : okW l) : Cd Tryz.prog 156 [.ln (l.map tWt), i64 h] (.sl 0 0 (onS l h).length) [.row 0 3 1 ((onS l h).map tI)] := by
 have := onAll_c l h hl
 rw [← isort_len (key := tick l)] at this
 exact this
theorem hshut_c (c : DConf) (m k : Nat) (h : DHall) (t n x : Int) (hx : sI x) (hm : h.chans.length = m) (hk : h.done.length = k) (hh : okHl h) :
  Cio Tryz.prog 107 [.ptr 0 0, i64 x] (stH c m k h t n) (aR (closeH h x).2) (stH c m k (closeH h x).1 t n) := by
 have h1 : (h.chans.map tCh).length = m := by rw [List.length_map, hm]
 have h1k : (h.done.map tR).length = k := by rw [List.length_map, hk]
 have hm1 := hh.c
 have hk1 := hh.d
 have hw0 := hh.w.1
 have cF := find_c h x hx hm1
 unfold closeH
 cases hf : fndOk h x
 ·rw [if_neg (by simp)]
  rw [hf, fnd_no hf] at cF
  dsimp only [stH, stB, aR]
  refine Cio.enter' Tryz.func107 rfl Tryz.ntmps107 rfl qM ?_
  repeat' (first | ((with_reducible refine kAL ?_); (first | refine uK (cF) ?_ | refine uA ?_)) | refine uC ?_ | fail)
  all_goals first | (exfalso; omega) | (exact Fin.q Tryz.results107 (.cons (.agg rfl rfl ud42 rfl inf42 (us := [_, _, _, _]) rfl rfl) .nil) [])
 ·obtain ⟨j, ch, e1, e2, hc, hu, hgn, e3, e4, e5⟩ := fnd_yes hf
  rw [if_pos rfl, e3, e4, Int.toNat_natCast]
  rw [hf, e3] at cF
  have hb := hh.b ch (List.mem_of_getElem? hc)
  have cS := shut_c ch x h.waits hh.w hb (onS_c h.waits x hh.w)
  obtain ⟨hg1, hg2, hg3, hg4⟩ := @shutG_b ch x h.waits hh.w
  generalize shutG ch x h.waits = g at *
  obtain ⟨⟨g1, g2, g3, g4, gb⟩, gl, ge, gt⟩ := g
  obtain ⟨c1, c2, c3, c4, cb⟩ := ch
  dsimp only at *
  have cT := tell_c c m k ⟨h.ticket, h.chans.set j ⟨g1, g2, g3, g4, gb⟩, gl, h.done⟩ t n gt hk (by omega) (by omega)
  unfold sA at cS
  dsimp only [stH, stB, aR, aC] at *
  refine Cio.enter' Tryz.func107 rfl Tryz.ntmps107 rfl qM ?_
  repeat' (first | ((with_reducible refine kAL ?_); (first | refine uK (cF) ?_ | refine uI [0, 1, 2] (cT) ?_ | refine uA ?_)) | ((with_reducible refine kRG ?_); (first | refine uQ (cS) 0 ?_ | refine R_store_rp rfl rfl 87 _ _ rfl inf87 (by decide) rfl rfl (by exact map_get (by assumption)) rfl rfl rfl (Nat.le_of_ble_eq_true rfl) (by exact map_set (f := tCh) (x := ⟨g1, g2, g3, g4, gb⟩)) qN ?_ | refine uR ?_)) | refine uC ?_ | refine AW.drawU (id := 4) mixed 1 qR ?_ | refine AW.drawU (id := 5) mixed 0 qR ?_ | fail)
  all_goals first | (exfalso; omega) | (exact Fin.q Tryz.results107 (.cons (.agg rfl rfl ud42 rfl inf42 (us := [_, _, _, _]) rfl rfl) .nil) [])
theorem look_c (c : DConf) (m k : Nat) (h : DHall) (t n : Int) (q : DReq) (hx : sI q.arg) (hm : h.chans.length = m) (hk : h.done.length = k) (hm1 : m ≤ 2932031007402) :
  Cio Tryz.prog 108 [.ptr 0 0, aRq q] (stH c m k h t n) (aR (lookH h q)) (stH c m k h t n) := by
 have h1 : (h.chans.map tCh).length = m := by rw [List.length_map, hm]
 have h1k : (h.done.map tR).length = k := by rw [List.length_map, hk]
 obtain ⟨qk, qa, qv, qd, cs⟩ := q
 dsimp only at hx
 have cF := find_c h qa hx (by omega)
 unfold lookH
 dsimp only
 cases hf : fndOk h qa
 ·rw [if_neg (by simp)]
  rw [hf, fnd_no hf] at cF
  dsimp only [stH, stB, aR, aRq]
  refine Cio.enter' Tryz.func108 rfl Tryz.ntmps108 rfl qM ?_
  repeat' (first | refine uA ?_ | ((with_reducible refine kRG ?_); (first | refine uQ (cF) 0 ?_ | refine uR ?_)) | refine uC ?_ | refine AW.drawU (id := 1) mixed 2 qR ?_ | fail)
  all_goals first | (exfalso; omega) | (exact Fin.q Tryz.results108 (.cons (.agg rfl rfl ud42 rfl inf42 (us := [_, _, _, _]) rfl rfl) .nil) [])
 ·obtain ⟨j, ch, e1, e2, hc, hu, hgn, e3, e4, e5⟩ := fnd_yes hf
  rw [if_pos rfl, e3, e4]
  rw [hf, e3] at cF
  obtain ⟨c1, c2, c3, c4, cb⟩ := ch
  have hbl : (cb.map tI).length = cb.length := List.length_map _
  by_cases hk6 : qk = 6
  ·rw [if_pos hk6]
   dsimp only [stH, stB, aR, aRq]
   refine Cio.enter' Tryz.func108 rfl Tryz.ntmps108 rfl qM ?_
   repeat' (first | refine uA ?_ | ((with_reducible refine kRG ?_); (first | refine uQ (cF) 0 ?_ | refine uR ?_)) | refine uC ?_ | refine AW.drawU (id := 1) mixed 0 qR ?_ | fail)
   all_goals first | (exfalso; omega) | (exact Fin.q Tryz.results108 (.cons (.agg rfl rfl ud42 rfl inf42 (us := [_, _, _, _]) rfl rfl) .nil) [])
  ·rw [if_neg hk6]
   dsimp only [stH, stB, aR, aRq]
   refine Cio.enter' Tryz.func108 rfl Tryz.ntmps108 rfl qM ?_
   repeat' (first | refine uA ?_ | ((with_reducible refine kRG ?_); (first | refine uQ (cF) 0 ?_ | refine uR ?_)) | refine uC ?_ | refine AW.drawU (id := 1) mixed 0 qR ?_ | fail)
   all_goals first | (exfalso; omega) | ((refine Fin.mkv (rs := _) Tryz.results108 (.cons (.agg rfl rfl ud42 rfl inf42 (us := [_, _, _, _]) rfl rfl) .nil) [] (by decide) rfl ?_ ?_ ?_ <;> repeat' (skip; first | exact .nil | refine .cons rfl ?_ ?_ | refine .cons ?_ ?_ | refine .row ?_ | refine .rset ?_ | refine .box ?_ | exact .gone | refine .aggL ?_ | refine .tupL ?_ | refine .old rfl ?_ | refine .new rfl rfl rfl ?_ | exact .nl | exact .optr rfl | exact .nptr rfl rfl rfl | refine .t ?_ | exact .any _ | rfl)))
   all_goals (rw [hbl])
theorem cancel_c (c : DConf) (m k : Nat) (h : DHall) (me n t v : Int) (hm : h.chans.length = m) (hk : h.done.length = k) (hh : okHl h) :
  Cio Tryz.prog 109 [.ptr 0 0, i64 t, i64 v] (stH c m k h me n) (aR (cancelH h me t v).2) (stH c m k (cancelH h me t v).1 me n) := by
 have h1 : (h.waits.map tWt).length = h.waits.length := List.length_map _
 have hk1 := hh.d
 have hw0 := hh.w.1
 unfold cancelH mayCut
 by_cases ht : 0 ≤ t ∧ t < h.waits.length
 ·obtain ⟨j, rfl⟩ : ∃ j : Nat, t = j := ⟨t.toNat, by omega⟩
  obtain ⟨⟨on, tk, sq, cs⟩, hw⟩ : ∃ w, h.waits[j]? = some w := ⟨_, List.getElem?_eq_getElem (by omega)⟩
  rw [Int.toNat_natCast, getD_of hw]
  cases on
  ·rw [cutOk_off hw rfl, Bool.false_and, Bool.false_and, if_neg (by simp)]
   by_cases hme : (j : Int) = me
   ·subst hme
    dsimp only [stH, stB, aR]
    refine Cio.enter' Tryz.func109 rfl Tryz.ntmps109 rfl qM ?_
    repeat' (first | refine uA ?_ | refine uC ?_ | fail)
    all_goals first | (exfalso; omega) | (exact Fin.q Tryz.results109 (.cons (.agg rfl rfl ud42 rfl inf42 (us := [_, _, _, _]) rfl rfl) .nil) [])
   ·dsimp only [stH, stB, aR]
    refine Cio.enter' Tryz.func109 rfl Tryz.ntmps109 rfl qM ?_
    repeat' (first | refine uA ?_ | refine uC ?_ | fail)
    all_goals first | (exfalso; omega) | (exact Fin.q Tryz.results109 (.cons (.agg rfl rfl ud42 rfl inf42 (us := [_, _, _, _]) rfl rfl) .nil) [])
  ·rw [cutOk_yes hw rfl, Bool.true_and]
   by_cases hme : (j : Int) = me
   ·subst hme
    rw [decide_eq_false (by simp), Bool.false_and, if_neg (by simp)]
    dsimp only [stH, stB, aR]
    refine Cio.enter' Tryz.func109 rfl Tryz.ntmps109 rfl qM ?_
    repeat' (first | refine uA ?_ | refine uC ?_ | fail)
    all_goals first | (exfalso; omega) | (exact Fin.q Tryz.results109 (.cons (.agg rfl rfl ud42 rfl inf42 (us := [_, _, _, _]) rfl rfl) .nil) [])
   ·rw [decide_eq_true hme, Bool.true_and]
    dsimp only
    by_cases hv : sq = v
    ·subst hv
     rw [decide_eq_true rfl, if_pos rfl]
     have cX0 := wcut_c h.waits j hh.w
     have hcl : (cutW h.waits j).length = h.waits.length := cutW_len ..
     rw [cutOk_yes hw rfl] at cX0
     have cT := tell_c c m k ⟨h.ticket, h.chans, cutW h.waits j, h.done⟩ me n [⟨j, ⟨sq, 0, 11, 0⟩⟩] hk (by simp) (by omega)
     dsimp only at cT ⊢
     generalize cutW h.waits j = W at *
     have cX : Cd Tryz.prog 145 [.ln (h.waits.map tWt), i64 j] (.tup [.t (.lst (W.map tWt)), bo true]) [] := by have cX0' := Cd.frz cX0 0 rfl (by repeat' (first | exact FzL.nil | apply FzL.cons | exact FzR.nlt | exact FzR.all (by first | rfl | (simp <;> fail) | (simp; omega)) | exact FzR.sl (by first | exact Nat.le_refl _ | (simp <;> fail) | (simp; omega)) | apply FzR.aggL | exact FzR.same _)) rfl; exact Cd.drop cX0' rfl
     rw [show tellL h.done [⟨j, ⟨sq, 0, 11, 0⟩⟩] = noteL h.done j ⟨sq, 0, 11, 0⟩ from rfl] at cT
     dsimp only [stH, stB, aR] at *
     first | refine Cd.enter' Tryz.func109 rfl Tryz.ntmps109 rfl ?_ | refine Cio.enter' Tryz.func109 rfl Tryz.ntmps109 rfl qM ?_ | refine C.enter' Tryz.func109 rfl Tryz.ntmps109 rfl qM ?_
     repeat' (first | ((with_reducible refine kAL ?_); (first | refine A_lit (d := 72) rfl rfl 141 1 _ rfl ud141 inf165 (.cons rfl .nil) (els := [[_, _, _, _, _]]) rfl (by exact (rfl : _ = List.map tTd [⟨j, ⟨sq, 0, 11, 0⟩⟩])) rfl (Nat.ne_of_beq_eq_false rfl) (Nat.le_of_ble_eq_true rfl) (Nat.le_of_ble_eq_true rfl) (.push qL qN) ?_; (try refine AL.wk (Wk.freeze 4 rfl 72 rfl (by exact .all (by rfl)) qN) ?_) | refine uK (cX) ?_ | refine uI [0, 1, 2] (cT) ?_ | refine uA ?_)) | refine uC ?_ | fail)
     all_goals first | (exfalso; omega) | (exact Fin.q Tryz.results109 (.cons (.agg rfl rfl ud42 rfl inf42 (us := [_, _, _, _]) rfl rfl) .nil) [])
    ·rw [decide_eq_false hv, if_neg (by simp)]
     dsimp only [stH, stB, aR]
     first | refine Cd.enter' Tryz.func109 rfl Tryz.ntmps109 rfl ?_ | refine Cio.enter' Tryz.func109 rfl Tryz.ntmps109 rfl qM ?_ | refine C.enter' Tryz.func109 rfl Tryz.ntmps109 rfl qM ?_
     repeat' (first | refine uA ?_ | refine uC ?_ | fail)
     all_goals first | (exfalso; omega) | (exact Fin.q Tryz.results109 (.cons (.agg rfl rfl ud42 rfl inf42 (us := [_, _, _, _]) rfl rfl) .nil) [])
 ·rw [cutOk_out ht, Bool.false_and, Bool.false_and, if_neg (by simp)]
  dsimp only [stH, stB, aR]
  by_cases h0 : t < 0
  all_goals
   first | refine Cd.enter' Tryz.func109 rfl Tryz.ntmps109 rfl ?_ | refine Cio.enter' Tryz.func109 rfl Tryz.ntmps109 rfl qM ?_ | refine C.enter' Tryz.func109 rfl Tryz.ntmps109 rfl qM ?_
   repeat' (first | refine uA ?_ | refine uC ?_ | fail)
   all_goals first | (exfalso; omega) | (exact Fin.q Tryz.results109 (.cons (.agg rfl rfl ud42 rfl inf42 (us := [_, _, _, _]) rfl rfl) .nil) [])
theorem call_c (c : DConf) (m k : Nat) (h : DHall) (t n : Int) (q : DReq) (hq : okQ h q) (hm : h.chans.length = m) (hk : h.done.length = k) (hh : okHl h) :
  Cio Tryz.prog 68 [.ptr 0 0, aRq q] (stH c m k h t n) (aR (callH c h t n q).2) (stH c m k (callH c h t n q).1 t n) := by
 have hm1 := hh.c
 have x1 := open_c c m k h t n q.arg hm (by omega) hq.g
 have x2 := free_c c m k h t n q.arg hq.a hm hk (by omega) hh.w
 have x3 := choose_c c m k h t n q hq.c hq.l hq.t hm hk hh
 have x4 := hshut_c c m k h t n q.arg hq.a hm hk hh
 have x5 := look_c c m k h t n q hq.a hm hk (by omega)
 have x7 := cancel_c c m k h t n q.arg q.value hm hk hh
 unfold callH
 obtain ⟨qk, qa, qv, qd, cs⟩ := q
 dsimp only at *
 by_cases k1 : qk = 1
 ·rw [if_pos k1]
  generalize openH c h qa = O at *
  obtain ⟨⟨o1, o2, o3, o4⟩, ⟨r1, r2, r3, r4⟩⟩ := O
  dsimp only [stH, stB, aR, aRq] at *
  clear x2 x3 x4 x5 x7
  refine Cio.enter' Tryz.func68 rfl Tryz.ntmps68 rfl qM ?_
  repeat' (first | ((with_reducible refine kAL ?_); (first | refine uI [0, 1, 2] (x1) ?_ | refine uA ?_)) | refine uC ?_ | fail)
  all_goals first | (exfalso; omega) | (exact Fin.q Tryz.results68 (.cons (.agg rfl rfl ud42 rfl inf42 (us := [_, _, _, _]) rfl rfl) .nil) [])
 ·rw [if_neg k1]
  by_cases k2 : qk = 2
  ·rw [if_pos k2]
   generalize freeH h qa = O at *
   obtain ⟨⟨o1, o2, o3, o4⟩, ⟨r1, r2, r3, r4⟩⟩ := O
   dsimp only [stH, stB, aR, aRq] at *
   clear x1 x3 x4 x5 x7
   refine Cio.enter' Tryz.func68 rfl Tryz.ntmps68 rfl qM ?_
   repeat' (first | ((with_reducible refine kAL ?_); (first | refine uI [0, 1, 2] (x2) ?_ | refine uA ?_)) | refine uC ?_ | fail)
   all_goals first | (exfalso; omega) | (exact Fin.q Tryz.results68 (.cons (.agg rfl rfl ud42 rfl inf42 (us := [_, _, _, _]) rfl rfl) .nil) [])
  ·rw [if_neg k2]
   by_cases k3 : qk = 3
   ·rw [if_pos k3]
    generalize chooseH h t n ⟨qk, qa, qv, qd, cs⟩ = O at *
    obtain ⟨⟨o1, o2, o3, o4⟩, ⟨r1, r2, r3, r4⟩⟩ := O
    dsimp only [stH, stB, aR, aRq] at *
    clear x2 x1 x4 x5 x7
    refine Cio.enter' Tryz.func68 rfl Tryz.ntmps68 rfl qM ?_
    repeat' (first | ((with_reducible refine kAL ?_); (first | refine uI [0, 1, 2] (x3) ?_ | refine uA ?_)) | refine uC ?_ | fail)
    all_goals first | (exfalso; omega) | (exact Fin.q Tryz.results68 (.cons (.agg rfl rfl ud42 rfl inf42 (us := [_, _, _, _]) rfl rfl) .nil) [])
   ·rw [if_neg k3]
    by_cases k4 : qk = 4
    ·rw [if_pos k4]
     generalize closeH h qa = O at *
     obtain ⟨⟨o1, o2, o3, o4⟩, ⟨r1, r2, r3, r4⟩⟩ := O
     dsimp only [stH, stB, aR, aRq] at *
     clear x2 x3 x1 x5 x7
     refine Cio.enter' Tryz.func68 rfl Tryz.ntmps68 rfl qM ?_
     repeat' (first | ((with_reducible refine kAL ?_); (first | refine uI [0, 1, 2] (x4) ?_ | refine uA ?_)) | refine uC ?_ | fail)
     all_goals first | (exfalso; omega) | (exact Fin.q Tryz.results68 (.cons (.agg rfl rfl ud42 rfl inf42 (us := [_, _, _, _]) rfl rfl) .nil) [])
    ·rw [if_neg k4]
     by_cases k5 : qk = 5 ∨ qk = 6
     ·rw [if_pos k5]
      generalize lookH h ⟨qk, qa, qv, qd, cs⟩ = O at *
      obtain ⟨r1, r2, r3, r4⟩ := O
      dsimp only [stH, stB, aR, aRq] at *
      clear x2 x3 x4 x1 x7
      by_cases k6 : qk = 5
      all_goals
       refine Cio.enter' Tryz.func68 rfl Tryz.ntmps68 rfl qM ?_
       repeat' (first | ((with_reducible refine kAL ?_); (first | refine uI [0, 1, 2] (x5) ?_ | refine uA ?_)) | refine uC ?_ | fail)
       all_goals first | (exfalso; omega) | (exact Fin.q Tryz.results68 (.cons (.agg rfl rfl ud42 rfl inf42 (us := [_, _, _, _]) rfl rfl) .nil) [])
     ·rw [if_neg k5]
      by_cases k7 : qk = 7
      ·rw [if_pos k7]
       generalize cancelH h t qa qv = O at *
       obtain ⟨⟨o1, o2, o3, o4⟩, ⟨r1, r2, r3, r4⟩⟩ := O
       dsimp only [stH, stB, aR, aRq] at *
       clear x2 x3 x4 x5 x1
       refine Cio.enter' Tryz.func68 rfl Tryz.ntmps68 rfl qM ?_
       repeat' (first | ((with_reducible refine kAL ?_); (first | refine uI [0, 1, 2] (x7) ?_ | refine uA ?_)) | refine uC ?_ | fail)
       all_goals first | (exfalso; omega) | (exact Fin.q Tryz.results68 (.cons (.agg rfl rfl ud42 rfl inf42 (us := [_, _, _, _]) rfl rfl) .nil) [])
      ·rw [if_neg k7]
       dsimp only [stH, stB, aR, aRq] at *
       clear x1 x2 x3 x4 x5 x7
       refine Cio.enter' Tryz.func68 rfl Tryz.ntmps68 rfl qM ?_
       repeat' (first | refine uA ?_ | refine uC ?_ | fail)
       all_goals first | (exfalso; omega) | (exact Fin.q Tryz.results68 (.cons (.agg rfl rfl ud42 rfl inf42 (us := [_, _, _, _]) rfl rfl) .nil) [])
theorem apply_c (c : DConf) (h : DHall) (t n : Int) (q : DReq) (hq : okQ h q) (hh : okHl h) :
  Cd Tryz.prog 29 [fCf c, aHl h, i64 t, i64 n, aRq q] (.agg [i64 (applyH c h t n q).ticket, .sl 0 0 h.chans.length, .t (.lst ((applyH c h t n q).waits.map tWt)), .sl 1 0 h.done.length]) [.row 0 87 5 ((applyH c h t n q).chans.map tCh), .row 0 42 4 ((applyH c h t n q).done.map tR)] := by
 have cK := hcopy_c h hh
 have cL := call_c c h.chans.length h.done.length h t n q hq rfl rfl hh
 obtain ⟨h1, h2⟩ := callH_len c h t n q
 have hk1 := hh.d
 unfold applyH
 generalize callH c h t n q = O at *
 obtain ⟨⟨o1, o2, o3, o4⟩, ⟨r1, r2, r3, r4⟩⟩ := O
 obtain ⟨qk, qa, qv, qd, cs⟩ := q
 dsimp only at *
 have h3 : (o4.map tR).length = h.done.length := by rw [List.length_map, h2]
 have h4 : (o2.map tCh).length = h.chans.length := by rw [List.length_map, h1]
 generalize hM : h.chans.length = m at *
 generalize hK : h.done.length = k at *
 dsimp only [stH, stB, aR, aRq, fCf] at *
 by_cases ht : 0 ≤ t ∧ t < k
 ·obtain ⟨j, rfl⟩ : ∃ j : Nat, t = j := ⟨t.toNat, by omega⟩
  rw [noteL_in (by omega)]
  obtain ⟨y, hy⟩ : ∃ y, o4[j]? = some y := ⟨_, List.getElem?_eq_getElem (by omega)⟩
  refine Cd.enter' Tryz.func29 rfl Tryz.ntmps29 rfl ?_
  repeat' (first | ((with_reducible refine kAL ?_); (first | refine uI [6, 4, 5] (cL) ?_ | refine uA ?_)) | ((with_reducible refine kRG ?_); (first | refine uQ (cK) 4 ?_ | refine R_store_rp rfl rfl 42 _ _ rfl inf42 (by decide) rfl rfl (by exact map_get (by assumption)) rfl rfl rfl (Nat.le_of_ble_eq_true rfl) (by exact map_set (f := tR) (x := ⟨n, r2, r3, r4⟩)) qN ?_ | refine uR ?_)) | refine uC ?_ | refine AW.drawU (id := 1) mixed 3 qR ?_ | refine AW.drawU (id := 5) mixed 0 qR ?_ | fail)
  all_goals first | (exfalso; omega) | (exact Fin.q Tryz.results29 (.cons (.agg rfl rfl ud49 rfl inf49 (us := [_, _, _, _]) rfl rfl) .nil) [4, 5])
 ·rw [noteL_out (by omega)]
  by_cases h0 : 0 ≤ t
  all_goals
   refine Cd.enter' Tryz.func29 rfl Tryz.ntmps29 rfl ?_
   repeat' (first | ((with_reducible refine kAL ?_); (first | refine uI [6, 4, 5] (cL) ?_ | refine uA ?_)) | ((with_reducible refine kRG ?_); (first | refine uQ (cK) 4 ?_ | refine uR ?_)) | refine uC ?_ | refine AW.drawU (id := 1) mixed 3 qR ?_ | fail)
   all_goals first | (exfalso; omega) | (exact Fin.q Tryz.results29 (.cons (.agg rfl rfl ud49 rfl inf49 (us := [_, _, _, _]) rfl rfl) .nil) [4, 5])
end
section
attribute [local irreducible] AL AW RG Fin C Cd Cio thenQ blockQ retQ
set_option maxRecDepth 100000
attribute [local simp] putW_len cutW_len
theorem onSR_c (l : List DWait) (h : Int) (hl : okW l) : Cd Tryz.prog 149 [.ln (l.map tWt), i64 h] (.t (.lst ((onS l h).map tI))) [] := onR_c l h hl
theorem which_c (w : DWait) (h : Int) (hw : w.cases.length ≤ 1152921504606846976) (ho : w.on = true) : Cd Tryz.prog 150 [.agg [bo w.on, i64 w.ticket, i64 w.seq, .ln (w.cases.map tCs)], i64 h] (i64 (ixF (isH h) w.cases)) [] := by
 have cP := place_c w 0 h hw
 rw [plI_isH] at cP
 unfold plI at cP
 rw [if_pos ho] at cP
 generalize ixF (isH h) w.cases = z at cP
 refine Cd.enter' Tryz.func150 rfl Tryz.ntmps150 rfl ?_
 repeat' (first | ((with_reducible refine kAL ?_); (first | refine uK (cP) ?_ | refine uA ?_)) | refine uC ?_ | fail)
 all_goals first | (exfalso; omega) | (exact Fin.q Tryz.results150 (.cons (.tmp rfl) .nil) [])
theorem onS_on {l : List DWait} {h : Int} {z : Int} (hz : z ∈ onS l h) : ∃ (n : Nat) (w : DWait), z = n ∧ l[n]? = some w ∧ w.on = true := by
 have hm := isort_mem.1 hz
 have : ∀ k, k ≤ l.length → z ∈ onK l h k → ∃ (n : Nat) (w : DWait), z = n ∧ l[n]? = some w ∧ w.on = true := by
  intro k
  induction k with
  | zero => intro _ hm; cases hm
  | succ k ih =>
   intro hk hm
   obtain ⟨a, ha⟩ : ∃ a, l[k]? = some a := ⟨_, List.getElem?_eq_getElem (by omega)⟩
   rw [onK_next ha] at hm
   split at hm
   ·rename_i hc
    rcases List.mem_append.1 hm with hm | hm
    ·exact ih (by omega) hm
    ·rw [List.mem_singleton] at hm
     simp only [Bool.and_eq_true] at hc
     exact ⟨k, a, hm, ha, hc.1⟩
   ·exact ih (by omega) hm
 exact this l.length (Nat.le_refl _) hm
structure ShR where
 q : Nat
 k : Nat
 R : List DWait
 T : List DTold
def shR (g : SG) : AV := .agg [i64 g.c.gen, i64 g.c.cap, bo g.c.used, bo g.c.closed, .t (.lst (g.c.buf.map tI)), .t (.lst (g.l.map tWt)), i64 0, i64 0, i64 g.e, i64 0, .t (.lst (g.told.map tTd))]
theorem rshut_c (c : DChan) (h : Int) (l : List DWait) (hl : okW l) (hb : c.buf.length ≤ 17592186043904) : Cd Tryz.prog 122 [aC c, i64 h, .ln (l.map tWt)] (shR (shutG c h l)) [] := by
 have hl0 := hl.1
 have h1 : (l.map tWt).length = l.length := List.length_map _
 have hcc := ccopyR_c c (by omega)
 have cW := wcopyR_c l hl
 have cO := onSR_c l h hl
 obtain ⟨-, hSl, hSm⟩ := onS_b l h
 have hSo := @onS_on l h
 unfold shutG
 generalize onS l h = S at cO hSl hSm hSo
 have h2 : (S.map tI).length = S.length := List.length_map _
 obtain ⟨g, cap, used, closed, buf⟩ := c
 dsimp only [aC] at hcc hb ⊢
 by_cases hu : used = true ∧ closed = false
 ·obtain ⟨rfl, rfl⟩ := hu
  simp only [Bool.not_false, Bool.and_self, if_true]
  have h0 : Cd Tryz.prog 122 [.agg [i64 g, i64 cap, bo true, bo false, .ln (buf.map tI)], i64 h, .ln (l.map tWt)] (.agg [i64 g, i64 cap, bo true, bo true, .sl 0 0 buf.length, .sl 1 0 l.length, i64 0, i64 0, i64 0, i64 0, .sl 2 0 S.length]) [.row 0 3 1 (buf.map tI), .row 0 90 4 ((S.foldl cutW l).map tWt), .row 0 165 5 ((S.map (shT l h)).map tTd)] := by
   refine Cd.enter' Tryz.func122 rfl Tryz.ntmps122 rfl ?_
   repeat' (first | ((with_reducible refine kAL ?_); (first | refine uK (hcc) ?_ | refine uK (cW) ?_ | refine uK (cO) ?_ | refine uA ?_)) | refine uC ?_ | fail)
   all_goals first | (exfalso; omega) | skip
   refine AW.wk (Wk.ownB 4 10 rfl rfl 165 5 (.push rfl rfl) rfl) ?_
   refine AW.loopP (fun (x : ShR) => x.q ≤ S.length ∧ x.R = (S.take x.q).foldl cutW l ∧ (∀ (n : Nat) (w : DWait), l[n]? = some w → x.R[n]? = some w ∨ x.R[n]? = some w0) ∧ x.R.length = l.length ∧ x.T = (S.take x.q).map (shT l h)) (fun (x : ShR) => (pu (pu (pu (pu (pu (pu (pu (fun _ => .any) 1 (i64 h)) 2 (.ln (l.map tWt))) 6 (.ptr 1 0)) 7 (.ptr 4 0)) 29 (.t (.lst (S.map tI)))) 30 (i64 (S.map tI).length)) 31 (i64 x.q))) (fun (x : ShR) => [.box 87 [i64 g, i64 cap, bo true, bo false, .ln (buf.map tI)], .box 143 [i64 0, i64 0, bo false, bo false, .nl, .nl, i64 0, i64 0, i64 0, i64 0, .nl], .row 0 3 1 (buf.map tI), .row 0 90 4 (x.R.map tWt), .box 143 [i64 g, i64 cap, bo true, bo true, .sl 2 0 buf.length, .sl 3 0 l.length, i64 0, i64 0, i64 0, i64 0, .sl 5 x.k x.q], .row x.k 165 5 (x.T.map tTd)]) (fun (x : ShR) => S.length - x.q) (⟨0, 0, l, []⟩) ?_ ?_ ?_
   ·exact ⟨Nat.zero_le _, rfl, fun n w hw => .inl hw, rfl, rfl⟩
   ·exact Wk.cq 6
   ·rintro ⟨q, k, R, T⟩ ⟨h3, h4, h5, h6, h7⟩
    dsimp only at h3 h4 h5 h6 h7 ⊢
    have h8 : T.length = q := by rw [h7, List.length_map, List.length_take]; omega
    have h9 : (T.map tTd).length = q := by rw [List.length_map, h8]
    have h10 : (R.map tWt).length = l.length := by rw [List.length_map, h6]
    by_cases hq : q < S.length
    ·obtain ⟨z, hz⟩ : ∃ z, S[q]? = some z := ⟨_, List.getElem?_eq_getElem hq⟩
     obtain ⟨n, w, rfl, hw, hon⟩ := hSo (List.mem_of_getElem? hz)
     have hn := get_lt hw
     have hsh : shT l h n = ⟨n, ⟨w.seq, ixF (isH h) w.cases, 9, 0⟩⟩ := by unfold shT; rw [Int.toNat_natCast, getD_of hw]
     have hcut : cutW R n = R.set n w0 := by
      rcases h5 n w hw with e | e
      ·exact cutW_yes (cutOk_yes e hon)
      ·rw [cutW_no (cutOk_off e rfl)]
       obtain ⟨hq', e'⟩ := List.getElem?_eq_some_iff.1 e
       rw [← e']; exact (List.set_getElem_self hq').symm
     have h5' : ∀ (n' : Nat) (w' : DWait), l[n']? = some w' → (R.set n w0)[n']? = some w' ∨ (R.set n w0)[n']? = some w0 := fun n' w' hw' => by
      by_cases e : n = n'
      ·subst e; right; rw [List.getElem?_set_self (by omega)]
      ·rw [List.getElem?_set_ne e]; exact h5 n' w' hw'
     have cI := which_c w h (by have := hl.at hw; omega) hon
     have cE := told_c l n (ixF (isH h) w.cases) 9 0 w hw
     generalize hix : ixF (isH h) w.cases = wh at *
     obtain ⟨y, hy⟩ : ∃ y, R[n]? = some y := ⟨_, List.getElem?_eq_getElem (by omega)⟩
     clear hSo h5
     obtain ⟨on, tk, sq, cs⟩ := w
     dsimp only at *
     repeat' (first | ((with_reducible refine kAL ?_); (first | (refine zkD 52 rfl ?_; refine uA ?_; (try refine AL.wk (Wk.nz 52 rfl (by exact .aggL (.cons (by exact .same _) (.cons (by exact .same _) (.cons (by exact .same _) (.cons (by exact .nlt) .nil)))))) ?_)) | refine A_store_rp rfl rfl 90 _ _ rfl inf90 (by decide) rfl rfl (by exact map_get (by assumption)) rfl rfl rfl (Nat.le_of_ble_eq_true rfl) (by exact map_set (f := tWt) (x := w0)) qN ?_ | refine uA ?_)) | ((with_reducible refine kRG ?_); (first | refine uQ (cI) 0 ?_ | refine uQ (cE) 0 ?_ | refine R_lit (N := 6) rfl rfl 141 1 _ rfl ud141 inf165 (.cons rfl .nil) (els := [[_, _, _, _, _]]) rfl (by exact (rfl : _ = List.map tTd [⟨n, ⟨sq, wh, 9, 0⟩⟩])) rfl (Nat.ne_of_beq_eq_false rfl) (Nat.le_of_ble_eq_true rfl) (Nat.le_of_ble_eq_true rfl) rfl qN ?_ | refine R_append rfl rfl _ _ 141 rfl ud141 inf165 rfl rfl rfl (by (simp; omega)) (by exact .all rfl (by rfl)) qB qB (by exact app_one (f := tTd) (x := ⟨n, ⟨sq, wh, 9, 0⟩⟩) (by omega)) qN qS ?_ | refine uR ?_)) | refine uC ?_ | refine AW.drawU (id := 9) mixed 2 qR ?_ | fail)
     all_goals first | (exfalso; omega) | skip
     refine ⟨⟨q + 1, k + 1, R.set n w0, T ++ [⟨n, ⟨sq, wh, 9, 0⟩⟩]⟩, ⟨by dsimp only; omega, by dsimp only; rw [List.take_add_one, hz, List.foldl_append, ← h4]; exact hcut.symm, h5', by dsimp only; rw [List.length_set, h6], by dsimp only; rw [List.take_add_one, hz, List.map_append, ← h7]; show _ = T ++ [shT l h n]; rw [hsh]⟩, by dsimp only; omega, ?_⟩
     exact Wk.cq 6
    ·have e : q = S.length := by omega
     subst e
     rw [List.take_length] at h4 h7
     subst h4 h7
     repeat' (first | refine uA ?_ | refine uC ?_ | fail)
     all_goals first | (exfalso; omega) | (exact Fin.q Tryz.results122 (.cons (.agg rfl rfl ud143 rfl inf143 (us := [_, _, _, _, _, _, _, _, _, _, _]) rfl rfl) .nil) [2, 3, 5])
  unfold shR
  have h11 : (S.foldl cutW l).length = l.length := by
   have hg : ∀ (S : List Int) (l : List DWait), (S.foldl cutW l).length = l.length := by
    intro S
    induction S with
    | nil => intro l; rfl
    | cons a S ih => intro l; rw [List.foldl_cons, ih, cutW_len]
   rw [hg]
  have h12 : (S.map (shT l h)).length = S.length := by simp
  dsimp only
  generalize S.foldl cutW l = LL at *
  generalize S.map (shT l h) = TT at *
  have h0' := Cd.frz1 h0 0 rfl (by repeat' (first | exact FzL.nil | apply FzL.cons | exact FzR.nlt | exact FzR.all (by first | rfl | (simp <;> fail) | (simp; omega)) | exact FzR.sl (by first | exact Nat.le_refl _ | (simp <;> fail) | (simp; omega)) | apply FzR.aggL | exact FzR.same _)) rfl; have h0'' := Cd.frz1 h0' 1 rfl (by repeat' (first | exact FzL.nil | apply FzL.cons | exact FzR.nlt | exact FzR.all (by first | rfl | (simp <;> fail) | (simp; omega)) | exact FzR.sl (by first | exact Nat.le_refl _ | (simp <;> fail) | (simp; omega)) | apply FzR.aggL | exact FzR.same _)) rfl; have h0''' := Cd.frz1 h0'' 2 rfl (by repeat' (first | exact FzL.nil | apply FzL.cons | exact FzR.nlt | exact FzR.all (by first | rfl | (simp <;> fail) | (simp; omega)) | exact FzR.sl (by first | exact Nat.le_refl _ | (simp <;> fail) | (simp; omega)) | apply FzR.aggL | exact FzR.same _)) rfl; exact Cd.drop h0''' rfl
 ·have e : (used && !closed) = false := by cases used <;> cases closed <;> simp_all
  rw [e, if_neg (by simp)]
  have h0 : Cd Tryz.prog 122 [.agg [i64 g, i64 cap, bo used, bo closed, .ln (buf.map tI)], i64 h, .ln (l.map tWt)] (.agg [i64 g, i64 cap, bo used, bo closed, .sl 0 0 buf.length, .sl 1 0 l.length, i64 0, i64 0, i64 9, i64 0, .nl]) [.row 0 3 1 (buf.map tI), .row 0 90 4 (l.map tWt)] := by
   cases used <;> cases closed
   all_goals first | (exact absurd ⟨rfl, rfl⟩ hu) | skip
   all_goals
    refine Cd.enter' Tryz.func122 rfl Tryz.ntmps122 rfl ?_
    repeat' (first | ((with_reducible refine kAL ?_); (first | refine uK (hcc) ?_ | refine uK (cW) ?_ | refine uA ?_)) | refine uC ?_ | fail)
    all_goals first | (exfalso; omega) | (exact Fin.q Tryz.results122 (.cons (.agg rfl rfl ud143 rfl inf143 (us := [_, _, _, _, _, _, _, _, _, _, _]) rfl rfl) .nil) [2, 3])
  unfold shR
  have h0' := Cd.frz1 h0 0 rfl (by repeat' (first | exact FzL.nil | apply FzL.cons | exact FzR.nlt | exact FzR.all (by first | rfl | (simp <;> fail) | (simp; omega)) | exact FzR.sl (by first | exact Nat.le_refl _ | (simp <;> fail) | (simp; omega)) | apply FzR.aggL | exact FzR.same _)) rfl; have h0'' := Cd.frz1 h0' 1 rfl (by repeat' (first | exact FzL.nil | apply FzL.cons | exact FzR.nlt | exact FzR.all (by first | rfl | (simp <;> fail) | (simp; omega)) | exact FzR.sl (by first | exact Nat.le_refl _ | (simp <;> fail) | (simp; omega)) | apply FzR.aggL | exact FzR.same _)) rfl; exact Cd.drop h0'' rfl
theorem ridle_c (c : DChan) (h : Int) (l : List DWait) (hl : okW l) : Cd Tryz.prog 121 [aC c, i64 h, .ln (l.map tWt)] (bo (c.used && c.closed && decide (c.buf = []) && decide (onS l h = []))) [] := by
 have cO := onSR_c l h hl
 have h2 : (onS l h).length ≤ l.length := (onS_b l h).2.1
 have h3 := hl.1
 generalize onS l h = S at cO h2 ⊢
 obtain ⟨g, cap, used, closed, buf⟩ := c
 have h1 : (buf.map tI).length = buf.length := List.length_map _
 have h4 : (S.map tI).length = S.length := List.length_map _
 dsimp only [aC]
 by_cases e1 : buf = []
 ·subst e1
  by_cases e2 : S = []
  ·subst e2
   cases used <;> cases closed
   all_goals
    refine Cd.enter' Tryz.func121 rfl Tryz.ntmps121 rfl ?_
    repeat' (first | ((with_reducible refine kAL ?_); (first | refine uK (cO) ?_ | refine uA ?_)) | refine uC ?_ | fail)
    all_goals first | (exfalso; omega) | (exact Fin.q Tryz.results121 (.cons (.tmp rfl) .nil) [])
  ·have : 0 < S.length := List.length_pos_iff.2 e2
   rw [decide_eq_false e2]
   cases used <;> cases closed
   all_goals
    refine Cd.enter' Tryz.func121 rfl Tryz.ntmps121 rfl ?_
    repeat' (first | ((with_reducible refine kAL ?_); (first | refine uK (cO) ?_ | refine uA ?_)) | refine uC ?_ | fail)
    all_goals first | (exfalso; omega) | (exact Fin.q Tryz.results121 (.cons (.tmp rfl) .nil) [])
 ·have : 0 < buf.length := List.length_pos_iff.2 e1
  rw [decide_eq_false e1]
  cases used <;> cases closed
  all_goals
   refine Cd.enter' Tryz.func121 rfl Tryz.ntmps121 rfl ?_
   repeat' (first | refine uA ?_ | refine uC ?_ | fail)
   all_goals first | (exfalso; omega) | (exact Fin.q Tryz.results121 (.cons (.tmp rfl) .nil) [])
end
end Go.Proofs.YtbpgopomninedaaGreat
