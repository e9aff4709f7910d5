/- Joined: XTHallS2, XTLaw12a. -/
import Derived.Test.YtbpgopomninedaaGreatKAg
import Derived.Test.YtbpgopomninedaaGreatKAu
import Derived.Test.YtbpgopomninedaaGreatKAt
namespace Go.Proofs.YtbpgopomninedaaGreat
open Go.RowKit
set_option linter.unusedVariables false
set_option linter.unusedSimpArgs false
set_option linter.unnecessarySimpa false
set_option maxRecDepth 100000
set_option maxHeartbeats 64000000
section
attribute [local irreducible] AL AW RG Fin C Cd Cio thenQ blockQ retQ
set_option maxRecDepth 100000
theorem rchoose_c (m k : Nat) (h : DHall) (t n : Int) (q : DReq) (hq : ∀ x ∈ q.cases, sCs x) (hq0 : q.cases.length ≤ 5864062014805) (ht : -9223372036854775808 ≤ h.ticket) (hm : h.chans.length = m) (hk : h.done.length = k) (hh : okHl h) :
  Cio Tryz.prog 75 [.ptr 0 0, i64 t, i64 n, aRq q] (hlH m k h) (aR (chooseH h t n q).2) (hlH m k (chooseH h t n q).1) := by
 have h1 : (h.chans.map tCh).length = m := by rw [List.length_map, hm]
 have h1k : (h.done.map tR).length = k := by rw [List.length_map, hk]
 have h2 : (q.cases.map tCs).length = q.cases.length := List.length_map _
 have hm1 := hh.c
 have hk1 := hh.d
 unfold chooseH
 obtain ⟨qk, qa, qv, qd, cs⟩ := q
 dsimp only at *
 have e1 := code_c 1
 have e8 := code_c 8
 have e10 := code_c 10
 have e7 := code_c 7
 have e13 := code_c 13
 have e14 := code_c 14
 by_cases hlen : cs.length = 0 ∨ 3 < cs.length
 ·have e : casesE h cs = 1 := by unfold casesE; rw [if_pos (by rcases hlen with h | h; exact .inl h; exact .inr (.inl h))]
  rw [e, if_pos (by decide)]
  dsimp only [hlH, aR, aRq]
  by_cases h0 : cs.length = 0
  all_goals
   refine Cio.enter' Tryz.func75 rfl Tryz.ntmps75 rfl qM ?_
   repeat' (first | ((with_reducible refine kAL ?_); (first | refine uK (e1) ?_ | refine uA ?_)) | refine uC ?_ | fail)
   all_goals first | (exfalso; omega) | (exact Fin.q Tryz.results75 (.cons (.agg rfl rfl ud42 rfl inf42 (us := [_, _, _, _]) rfl rfl) .nil) [])
 ·generalize hE : casesE h cs = E
  generalize hR : (if E ≠ 0 then (h, (⟨0, 0, E, 0⟩ : Rst)) else if 0 ≤ ixF (rdyK h) cs then oneH h (ixF (rdyK h) cs) (cs.getD (ixF (rdyK h) cs).toNat default)
   else if qd then (h, ⟨0, 0, 10, 0⟩)
   else if 4294967295 ≤ h.ticket then (h, ⟨0, 0, 7, 0⟩)
   else if putOk h.waits t then (⟨h.ticket + 1, h.chans, putW h.waits t ⟨false, h.ticket, n, cs⟩, h.done⟩, ⟨0, 0, 14, 0⟩)
   else (h, ⟨0, 0, 13, 0⟩)) = R
  dsimp only [hlH, aRq]
  refine Cio.enter' Tryz.func75 rfl Tryz.ntmps75 rfl qM ?_
  repeat' (first | refine uA ?_ | refine uC ?_ | fail)
  all_goals first | (exfalso; omega) | skip
  refine AW.loopP (fun (p : Nat) => p ≤ cs.length ∧ ∀ j, j < p → ∀ b, cs[j]? = some b → badK b = false) (fun (p : Nat) => (pu (pu (pu (pu (pu (pu (pu (pu (pu (fun _ => .any) 0 (.ptr 0 0)) 1 (i64 t)) 2 (i64 n)) 7 (.ptr 3 0)) 8 (.ptr 4 0)) 9 (bo ((cs.take p).all fun x => fndOk h x.handle))) 33 (.ln (cs.map tCs))) 34 (i64 (cs.map tCs).length)) 35 (i64 p))) (fun (p : Nat) => [.box 49 [i64 h.ticket, .sl 1 0 m, .t (.lst (h.waits.map tWt)), .sl 2 0 k], .row 0 87 5 (h.chans.map tCh), .row 0 42 4 (h.done.map tR), .box 28 [i64 qk, i64 qa, i64 qv, bo qd, .ln (cs.map tCs)], .box 42 [i64 0, i64 0, i64 0, i64 0]]) (fun (p : Nat) => cs.length - p) (0) ?_ ?_ ?_
  ·exact ⟨Nat.zero_le _, fun j hj => by omega⟩
  ·exact Wk.cq 5
  ·rintro p ⟨hp, hno⟩
   by_cases hi : p < cs.length
   ·obtain ⟨⟨d, hd, v⟩, hx⟩ : ∃ x, cs[p]? = some x := ⟨_, List.getElem?_eq_getElem hi⟩
    have hall : ((cs.take (p + 1)).all fun x => fndOk h x.handle) = (((cs.take p).all fun x => fndOk h x.handle) && fndOk h hd) := by rw [List.take_add_one, hx, List.all_append]; simp
    cases hb : badK ⟨d, hd, v⟩
    ·have hb2 : ¬ (¬ (d = 1 ∨ d = 2) ∨ v < 0 ∨ 4294967295 < v) := fun e => by rw [(badK_iff ⟨d, hd, v⟩).2 e] at hb; cases hb
     have hno' : ∀ j, j < p + 1 → ∀ b, cs[j]? = some b → badK b = false := fun j hj b hjb => by
      by_cases ej : j = p
      ·subst ej; rw [hx] at hjb; cases hjb; exact hb
      ·exact hno j (by omega) b hjb
     have cF := rfind_c h hd (hq _ (List.mem_of_getElem? hx)).2.1 (by omega)
     generalize ((cs.take p).all fun x => fndOk h x.handle) = gd at *
     generalize hfo : fndOk h hd = fo at *
     by_cases d1 : d = 1
     all_goals
      cases gd
      all_goals
       repeat' (first | refine uA ?_ | ((with_reducible refine kRG ?_); (first | refine uQ (cF) 0 ?_ | refine uR ?_)) | refine uC ?_ | refine AW.drawU (id := 9) mixed 0 qR ?_ | fail)
       all_goals first | (exfalso; omega) | skip
       refine ⟨p + 1, ⟨by omega, hno'⟩, by omega, ?_⟩
       rw [hall]
       simp only [Bool.false_and, Bool.true_and]
       exact Wk.cq 5
    ·have hb2 := (badK_iff ⟨d, hd, v⟩).1 hb
     dsimp only at hb2
     have e : E = 1 := by rw [← hE]; unfold casesE; rw [if_pos (.inr (.inr (any_of hx hb)))]
     subst e
     rw [if_pos (by decide)] at hR
     subst hR
     dsimp only [aR]
     clear hall
     generalize ((cs.take p).all fun x => fndOk h x.handle) = gd
     by_cases d1 : d = 1
     ·by_cases v1 : v < 0
      all_goals
       repeat' (first | ((with_reducible refine kAL ?_); (first | refine uK (e1) ?_ | refine uA ?_)) | refine uC ?_ | fail)
       all_goals first | (exfalso; omega) | (exact Fin.q Tryz.results75 (.cons (.agg rfl rfl ud42 rfl inf42 (us := [_, _, _, _]) rfl rfl) .nil) [])
     ·by_cases d2 : d = 2
      ·by_cases v1 : v < 0
       all_goals
        repeat' (first | ((with_reducible refine kAL ?_); (first | refine uK (e1) ?_ | refine uA ?_)) | refine uC ?_ | fail)
        all_goals first | (exfalso; omega) | (exact Fin.q Tryz.results75 (.cons (.agg rfl rfl ud42 rfl inf42 (us := [_, _, _, _]) rfl rfl) .nil) [])
      ·by_cases d3 : d < 1
       all_goals
        repeat' (first | ((with_reducible refine kAL ?_); (first | refine uK (e1) ?_ | refine uA ?_)) | refine uC ?_ | fail)
        all_goals first | (exfalso; omega) | (exact Fin.q Tryz.results75 (.cons (.agg rfl rfl ud42 rfl inf42 (us := [_, _, _, _]) rfl rfl) .nil) [])
   ·have hbad : cs.any badK = false := any_none fun j b hj => hno j (by have := get_lt hj; omega) b hj
    have ep : p = cs.length := by omega
    subst ep
    rw [List.take_length]
    clear hno
    cases hgd : (cs.all fun x => fndOk h x.handle)
    ·obtain ⟨y, hy, hyf⟩ : ∃ y ∈ cs, fndOk h y.handle = false := by
      obtain ⟨y, hy, hyf⟩ := List.all_eq_false.1 hgd
      exact ⟨y, hy, by simpa using hyf⟩
     have e : E = 8 := by rw [← hE]; unfold casesE; rw [hbad, if_neg (by rintro (h | h | h); exact hlen (.inl h); exact hlen (.inr h); cases h), if_pos (List.any_eq_true.2 ⟨y, hy, by simp [hyf]⟩)]
     subst e
     rw [if_pos (by decide)] at hR
     subst hR
     dsimp only [aR]
     repeat' (first | ((with_reducible refine kAL ?_); (first | refine uK (e8) ?_ | refine uA ?_)) | refine uC ?_ | fail)
     all_goals first | (exfalso; omega) | (exact Fin.q Tryz.results75 (.cons (.agg rfl rfl ud42 rfl inf42 (us := [_, _, _, _]) rfl rfl) .nil) [])
    ·have h5 : ∀ x ∈ cs, fndOk h x.handle = true := List.all_eq_true.1 hgd
     have e : E = 0 := by rw [← hE]; unfold casesE; rw [hbad, if_neg (by rintro (h | h | h); exact hlen (.inl h); exact hlen (.inr h); cases h), any_none fun j b hj => by simp [h5 b (List.mem_of_getElem? hj)]]; rfl
     subst e
     rw [if_neg (by decide)] at hR
     repeat' (first | refine uA ?_ | refine uC ?_ | fail)
     all_goals first | (exfalso; omega) | skip
     refine AW.loopP (fun (p : Nat) => p ≤ cs.length ∧ ∀ j, j < p → ∀ b, cs[j]? = some b → rdyK h b = false) (fun (p : Nat) => (pu (pu (pu (pu (pu (pu (pu (pu (fun _ => .any) 0 (.ptr 0 0)) 1 (i64 t)) 2 (i64 n)) 7 (.ptr 3 0)) 8 (.ptr 4 0)) 76 (.ln (cs.map tCs))) 77 (i64 (cs.map tCs).length)) 78 (i64 p))) (fun (p : Nat) => [.box 49 [i64 h.ticket, .sl 1 0 m, .t (.lst (h.waits.map tWt)), .sl 2 0 k], .row 0 87 5 (h.chans.map tCh), .row 0 42 4 (h.done.map tR), .box 28 [i64 qk, i64 qa, i64 qv, bo qd, .ln (cs.map tCs)], .box 42 [i64 0, i64 0, i64 0, i64 0]]) (fun (p : Nat) => cs.length - p) (0) ?_ ?_ ?_
     ·exact ⟨Nat.zero_le _, fun j hj => by omega⟩
     ·exact Wk.cq 5
     ·rintro p ⟨hp, hno⟩
      by_cases hi : p < cs.length
      ·obtain ⟨x, hx⟩ : ∃ x, cs[p]? = some x := ⟨_, List.getElem?_eq_getElem hi⟩
       have hxm := List.mem_of_getElem? hx
       have hf := h5 x hxm
       have cF := rfind_c h x.handle (hq x hxm).2.1 hm1
       obtain ⟨j, ch, a1, a2, hc, hu, hgn, a3, a4, a5⟩ := fnd_yes hf
       rw [hf, a3] at cF
       have cR := readyR_c ch x.handle h.waits x.dir hh.w
       have hr : rdyK h x = rdyC ch x.handle h.waits x.dir := by unfold rdyK; rw [a3, a4]
       rw [← hr] at cR
       have cD := doR_c ch x.handle h.waits x.dir x.value hh.w (hh.b ch (List.mem_of_getElem? hc))
       cases hrd : rdyK h x
       ·rw [hrd] at cR
        have hno' : ∀ j, j < p + 1 → ∀ b, cs[j]? = some b → rdyK h b = false := fun j hj b hjb => by
         by_cases ej : j = p
         ·subst ej; rw [hx] at hjb; cases hjb; exact hrd
         ·exact hno j (by omega) b hjb
        clear cD
        obtain ⟨d, hd, v⟩ := x
        obtain ⟨c1, c2, c3, c4, cb⟩ := ch
        dsimp only [aC] at cF cR
        repeat' (first | refine uA ?_ | ((with_reducible refine kRG ?_); (first | refine uQ (cF) 0 ?_ | refine uQ (cR) 0 ?_ | refine uR ?_)) | refine uC ?_ | refine AW.drawU (id := 17) mixed 0 qR ?_ | refine AW.drawU (id := 18) mixed 0 qR ?_ | fail)
        all_goals first | (exfalso; omega) | skip
        refine ⟨p + 1, ⟨by omega, hno'⟩, by omega, ?_⟩
        exact Wk.cq 5
       ·rw [hrd] at cR
        have hix := ixF_at (rdyK h) cs p x hno hx hrd
        rw [hix, if_pos (by omega), Int.toNat_natCast, getD_of hx] at hR
        obtain ⟨hg1, hg2, hg3, hg4⟩ := @doG_ok ch x.handle h.waits x.dir x.value hh.w
        unfold oneH gotH at hR
        rw [a3, a4, Int.toNat_natCast] at hR
        generalize doG ch x.handle h.waits x.dir x.value = g at *
        subst hR
        have cP := rput_c m k h j ch g hc hm hk (by omega) (by omega) (by omega)
        obtain ⟨⟨g1, g2, g3, g4, gb⟩, gl, ⟨r1, r2, r3, r4⟩, gt⟩ := g
        obtain ⟨d, hd, v⟩ := x
        obtain ⟨c1, c2, c3, c4, cb⟩ := ch
        dsimp only [aC, aR, gR, hlH] at *
        repeat' (first | ((with_reducible refine kAL ?_); (first | refine uI [0, 1, 2] (cP) ?_ | refine uA ?_)) | ((with_reducible refine kRG ?_); (first | refine uQ (cF) 0 ?_ | refine uQ (cR) 0 ?_ | refine uQ (cD) 0 ?_ | refine uR ?_)) | refine uC ?_ | refine AW.drawU (id := 17) mixed 0 qR ?_ | refine AW.drawU (id := 18) mixed 0 qR ?_ | refine AW.drawU (id := 19) mixed 1 qR ?_ | fail)
        all_goals first | (exfalso; omega) | (exact Fin.q Tryz.results75 (.cons (.agg rfl rfl ud42 rfl inf42 (us := [_, _, _, _]) rfl rfl) .nil) [])
      ·have hix := ixF_none (rdyK h) cs fun j b hb => hno j (by have := get_lt hb; omega) b hb
       rw [hix, if_neg (by omega)] at hR
       clear hno
       cases qd
       ·rw [if_neg (by simp)] at hR
        by_cases htk : 4294967295 ≤ h.ticket
        ·rw [if_pos htk] at hR
         subst hR
         dsimp only [aR]
         repeat' (first | ((with_reducible refine kAL ?_); (first | refine uK (e7) ?_ | refine uA ?_)) | refine uC ?_ | fail)
         all_goals first | (exfalso; omega) | (exact Fin.q Tryz.results75 (.cons (.agg rfl rfl ud42 rfl inf42 (us := [_, _, _, _]) rfl rfl) .nil) [])
        ·rw [if_neg htk] at hR
         have cP := wputR_c h.waits t ⟨false, h.ticket, n, cs⟩ hh.w hq0
         dsimp only at cP
         cases hpo : putOk h.waits t
         ·rw [hpo] at cP hR
          rw [if_neg (by simp)] at hR
          subst hR
          dsimp only [aR]
          repeat' (first | ((with_reducible refine kAL ?_); (first | refine uK (e13) ?_ | refine uA ?_)) | ((with_reducible refine kRG ?_); (first | refine uQ (cP) 5 ?_ | refine uR ?_)) | refine uC ?_ | refine AW.drawU (id := 28) mixed 2 qR ?_ | fail)
          all_goals first | (exfalso; omega) | (exact Fin.q Tryz.results75 (.cons (.agg rfl rfl ud42 rfl inf42 (us := [_, _, _, _]) rfl rfl) .nil) [])
         ·rw [hpo] at cP hR
          rw [if_pos rfl] at hR
          subst hR
          have hpl : (putW h.waits t ⟨false, h.ticket, n, cs⟩).length = h.waits.length := putW_len ..
          dsimp only [aR]
          generalize putW h.waits t ⟨false, h.ticket, n, cs⟩ = W at *
          have cP2 : Cd Tryz.prog 120 [.ln (h.waits.map tWt), i64 t, .agg [bo false, i64 h.ticket, i64 n, .ln (cs.map tCs)]] (.tup [.t (.lst (W.map tWt)), bo true]) [] := by have cP' := Cd.frz cP 0 rfl (by repeat' (first | exact FzL.nil | apply FzL.cons | exact FzR.nlt | exact FzR.all (by first | rfl | (simp <;> fail) | (simp; omega)) | exact FzR.sl (by first | exact Nat.le_refl _ | (simp <;> fail) | (simp; omega)) | apply FzR.aggL | exact FzR.same _)) rfl; exact Cd.drop cP' rfl
          repeat' (first | ((with_reducible refine kAL ?_); (first | refine uK (e14) ?_ | refine uA ?_)) | ((with_reducible refine kRG ?_); (first | refine uQ (cP2) 0 ?_ | refine uR ?_)) | refine uC ?_ | refine AW.drawU (id := 28) mixed 2 qR ?_ | fail)
          all_goals first | (exfalso; omega) | (exact Fin.q Tryz.results75 (.cons (.agg rfl rfl ud42 rfl inf42 (us := [_, _, _, _]) rfl rfl) .nil) [])
       ·rw [if_pos rfl] at hR
        subst hR
        dsimp only [aR]
        repeat' (first | ((with_reducible refine kAL ?_); (first | refine uK (e10) ?_ | refine uA ?_)) | refine uC ?_ | fail)
        all_goals first | (exfalso; omega) | (exact Fin.q Tryz.results75 (.cons (.agg rfl rfl ud42 rfl inf42 (us := [_, _, _, _]) rfl rfl) .nil) [])
def aboutH (h : DHall) (q : DReq) : DHall × Rst := if q.kind = 2 then freeH h q.arg else if q.kind = 4 then closeH h q.arg else (h, lookH h ⟨if q.kind = 5 then 5 else 6, q.arg, q.value, q.dflt, q.cases⟩)
theorem about_c (m k : Nat) (h : DHall) (q : DReq) (hx : sI q.arg) (hm : h.chans.length = m) (hk : h.done.length = k) (hh : okHl h) :
  Cio Tryz.prog 76 [.ptr 0 0, aRq q] (hlH m k h) (aR (aboutH h q).2) (hlH m k (aboutH h q).1) := by
 have h1 : (h.chans.map tCh).length = m := by rw [List.length_map, hm]
 have h1k : (h.done.map tR).length = k := by rw [List.length_map, hk]
 have hm1 := hh.c
 have hk1 := hh.d
 have hw0 := hh.w.1
 obtain ⟨qk, qa, qv, qd, cs⟩ := q
 dsimp only at hx
 have cF := rfind_c h qa hx hm1
 have e8 := code_c 8
 cases hf : fndOk h qa
 ·have e : aboutH h ⟨qk, qa, qv, qd, cs⟩ = (h, ⟨0, 0, 8, 0⟩) := by
   unfold aboutH freeH closeH lookH
   dsimp only
   rw [hf]
   repeat' split
   all_goals first | rfl | (exfalso; simp_all; done)
  rw [e]
  rw [hf, fnd_no hf] at cF
  dsimp only [hlH, aR, aRq]
  refine Cio.enter' Tryz.func76 rfl Tryz.ntmps76 rfl qM ?_
  repeat' (first | ((with_reducible refine kAL ?_); (first | refine uK (e8) ?_ | refine uA ?_)) | ((with_reducible refine kRG ?_); (first | refine uQ (cF) 0 ?_ | refine uR ?_)) | refine uC ?_ | refine AW.drawU (id := 1) mixed 2 qR ?_ | fail)
  all_goals first | (exfalso; omega) | (exact Fin.q Tryz.results76 (.cons (.agg rfl rfl ud42 rfl inf42 (us := [_, _, _, _]) rfl rfl) .nil) [])
 ·obtain ⟨j, ch, a1, a2, hc, hu, hgn, a3, a4, a5⟩ := fnd_yes hf
  rw [hf, a3] at cF
  have hb := hh.b ch (List.mem_of_getElem? hc)
  unfold aboutH
  dsimp only
  by_cases k2 : qk = 2
  ·rw [if_pos k2]
   unfold freeH
   rw [hf, if_pos rfl, a3, a4, Int.toNat_natCast]
   have cI : Cd Tryz.prog 121 [aC ch, i64 qa, .ln (h.waits.map tWt)] (bo (idleC ch qa h.waits)) [] := ridle_c ch qa h.waits hh.w
   have e13 := code_c 13
   have e0 := code_c 0
   cases hi : idleC ch qa h.waits
   ·rw [hi] at cI
    rw [if_neg (by simp)]
    obtain ⟨g, cap, used, closed, buf⟩ := ch
    dsimp only [hlH, aR, aC, aRq] at cI ⊢
    first | refine Cd.enter' Tryz.func76 rfl Tryz.ntmps76 rfl ?_ | refine Cio.enter' Tryz.func76 rfl Tryz.ntmps76 rfl qM ?_ | refine C.enter' Tryz.func76 rfl Tryz.ntmps76 rfl qM ?_
    repeat' (first | ((with_reducible refine kAL ?_); (first | refine uK (e13) ?_ | refine uA ?_)) | ((with_reducible refine kRG ?_); (first | refine uQ (cF) 0 ?_ | refine uQ (cI) 0 ?_ | refine uR ?_)) | refine uC ?_ | refine AW.drawU (id := 1) mixed 0 qR ?_ | refine AW.drawU (id := 7) mixed 0 qR ?_ | fail)
    all_goals first | (exfalso; omega) | (exact Fin.q Tryz.results76 (.cons (.agg rfl rfl ud42 rfl inf42 (us := [_, _, _, _]) rfl rfl) .nil) [])
   ·rw [hi] at cI
    rw [if_pos rfl]
    obtain ⟨g, cap, used, closed, buf⟩ := ch
    dsimp only [hlH, aR, aC, cH, aRq] at cI ⊢
    first | refine Cd.enter' Tryz.func76 rfl Tryz.ntmps76 rfl ?_ | refine Cio.enter' Tryz.func76 rfl Tryz.ntmps76 rfl qM ?_ | refine C.enter' Tryz.func76 rfl Tryz.ntmps76 rfl qM ?_
    repeat' (first | ((with_reducible refine kAL ?_); (first | refine uK (e0) ?_ | refine uA ?_)) | ((with_reducible refine kRG ?_); (first | refine uQ (cF) 0 ?_ | refine uQ (cI) 0 ?_ | refine R_store_rp rfl rfl 87 _ _ rfl inf87 (by decide) rfl rfl (by exact map_get (by assumption)) rfl rfl rfl (Nat.le_of_ble_eq_true rfl) (by exact map_set (f := tCh) (x := ⟨g, 0, false, false, []⟩)) qN ?_ | refine uR ?_)) | refine uC ?_ | refine AW.drawU (id := 1) mixed 0 qR ?_ | refine AW.drawU (id := 7) mixed 0 qR ?_ | refine AW.drawU (id := 9) mixed 0 qR ?_ | fail)
    all_goals first | (exfalso; omega) | (exact Fin.q Tryz.results76 (.cons (.agg rfl rfl ud42 rfl inf42 (us := [_, _, _, _]) rfl rfl) .nil) [])
  ·rw [if_neg k2]
   by_cases k4 : qk = 4
   ·rw [if_pos k4]
    unfold closeH
    rw [hf, if_pos rfl, a3, a4, Int.toNat_natCast]
    have cS := rshut_c ch qa h.waits hh.w hb
    obtain ⟨hg1, hg2, hg3, hg4⟩ := @shutG_b ch qa h.waits hh.w
    generalize shutG ch qa h.waits = g at *
    have cP := rput_c m k h j ch ⟨g.c, g.l, ⟨0, 0, g.e, 0⟩, g.told⟩ hc hm hk (by omega) (by omega) (by dsimp only; omega)
    have eE := code_c g.e
    obtain ⟨⟨g1, g2, g3, g4, gb⟩, gl, ge, gt⟩ := g
    obtain ⟨c1, c2, c3, c4, cb⟩ := ch
    unfold shR at cS
    dsimp only [hlH, aR, aC, gR, aRq] at *
    first | refine Cd.enter' Tryz.func76 rfl Tryz.ntmps76 rfl ?_ | refine Cio.enter' Tryz.func76 rfl Tryz.ntmps76 rfl qM ?_ | refine C.enter' Tryz.func76 rfl Tryz.ntmps76 rfl qM ?_
    repeat' (first | ((with_reducible refine kAL ?_); (first | refine uK (eE) ?_ | refine uI [0, 1, 2] (cP) ?_ | refine uA ?_)) | ((with_reducible refine kRG ?_); (first | refine uQ (cF) 0 ?_ | refine uQ (cS) 0 ?_ | refine uR ?_)) | refine uC ?_ | refine AW.drawU (id := 1) mixed 0 qR ?_ | refine AW.drawU (id := 12) mixed 1 qR ?_ | fail)
    all_goals first | (exfalso; omega) | (exact Fin.q Tryz.results76 (.cons (.agg rfl rfl ud42 rfl inf42 (us := [_, _, _, _]) rfl rfl) .nil) [])
   ·rw [if_neg k4]
    unfold lookH
    dsimp only
    rw [hf, if_pos rfl, a3, a4]
    obtain ⟨c1, c2, c3, c4, cb⟩ := ch
    have hbl : (cb.map tI).length = cb.length := List.length_map _
    by_cases k5 : qk = 5
    ·rw [if_pos k5, if_neg (by decide)]
     dsimp only [hlH, aR, aRq]
     first | refine Cd.enter' Tryz.func76 rfl Tryz.ntmps76 rfl ?_ | refine Cio.enter' Tryz.func76 rfl Tryz.ntmps76 rfl qM ?_ | refine C.enter' Tryz.func76 rfl Tryz.ntmps76 rfl qM ?_
     repeat' (first | refine uA ?_ | ((with_reducible refine kRG ?_); (first | refine uQ (cF) 0 ?_ | refine uR ?_)) | refine uC ?_ | refine AW.drawU (id := 1) mixed 0 qR ?_ | fail)
     all_goals first | (exfalso; omega) | ((refine Fin.mkv (rs := _) Tryz.results76 (.cons (.agg rfl rfl ud42 rfl inf42 (us := [_, _, _, _]) rfl rfl) .nil) [] (by decide) rfl ?_ ?_ ?_ <;> repeat' (skip; first | exact .nil | refine .cons rfl ?_ ?_ | refine .cons ?_ ?_ | refine .row ?_ | refine .rset ?_ | refine .box ?_ | exact .gone | refine .aggL ?_ | refine .tupL ?_ | refine .old rfl ?_ | refine .new rfl rfl rfl ?_ | exact .nl | exact .optr rfl | exact .nptr rfl rfl rfl | refine .t ?_ | exact .any _ | rfl)))
     all_goals (rw [hbl])
    ·rw [if_neg k5, if_pos rfl]
     dsimp only [hlH, aR, aRq]
     first | refine Cd.enter' Tryz.func76 rfl Tryz.ntmps76 rfl ?_ | refine Cio.enter' Tryz.func76 rfl Tryz.ntmps76 rfl qM ?_ | refine C.enter' Tryz.func76 rfl Tryz.ntmps76 rfl qM ?_
     repeat' (first | refine uA ?_ | ((with_reducible refine kRG ?_); (first | refine uQ (cF) 0 ?_ | refine uR ?_)) | refine uC ?_ | refine AW.drawU (id := 1) mixed 0 qR ?_ | fail)
     all_goals first | (exfalso; omega) | (exact Fin.q Tryz.results76 (.cons (.agg rfl rfl ud42 rfl inf42 (us := [_, _, _, _]) rfl rfl) .nil) [])
theorem rcancel_c (m k : Nat) (h : DHall) (me t v : Int) (hm : h.chans.length = m) (hk : h.done.length = k) (hh : okHl h) :
  Cio Tryz.prog 77 [.ptr 0 0, i64 me, i64 t, i64 v] (hlH m k h) (aR (cancelH h me t v).2) (hlH m k (cancelH h me t v).1) := by
 have h1 : (h.waits.map tWt).length = h.waits.length := List.length_map _
 have hk1 := hh.d
 have hw0 := hh.w.1
 have e12 := code_c 12
 unfold cancelH mayCut
 by_cases ht : 0 ≤ t ∧ t < h.waits.length
 ·obtain ⟨j, rfl⟩ : ∃ j : Nat, t = j := ⟨t.toNat, by omega⟩
  obtain ⟨⟨on, tk, sq, cs⟩, hw⟩ : ∃ w, h.waits[j]? = some w := ⟨_, List.getElem?_eq_getElem (by omega)⟩
  rw [Int.toNat_natCast, getD_of hw]
  cases on
  ·rw [cutOk_off hw rfl, Bool.false_and, Bool.false_and, if_neg (by simp)]
   by_cases hme : (j : Int) = me
   ·subst hme
    dsimp only [hlH, aR]
    refine Cio.enter' Tryz.func77 rfl Tryz.ntmps77 rfl qM ?_
    repeat' (first | ((with_reducible refine kAL ?_); (first | refine uK (e12) ?_ | refine uA ?_)) | refine uC ?_ | fail)
    all_goals first | (exfalso; omega) | (exact Fin.q Tryz.results77 (.cons (.agg rfl rfl ud42 rfl inf42 (us := [_, _, _, _]) rfl rfl) .nil) [])
   ·dsimp only [hlH, aR]
    refine Cio.enter' Tryz.func77 rfl Tryz.ntmps77 rfl qM ?_
    repeat' (first | ((with_reducible refine kAL ?_); (first | refine uK (e12) ?_ | refine uA ?_)) | refine uC ?_ | fail)
    all_goals first | (exfalso; omega) | (exact Fin.q Tryz.results77 (.cons (.agg rfl rfl ud42 rfl inf42 (us := [_, _, _, _]) rfl rfl) .nil) [])
  ·rw [cutOk_yes hw rfl, Bool.true_and]
   by_cases hme : (j : Int) = me
   ·subst hme
    rw [decide_eq_false (by simp), Bool.false_and, if_neg (by simp)]
    dsimp only [hlH, aR]
    refine Cio.enter' Tryz.func77 rfl Tryz.ntmps77 rfl qM ?_
    repeat' (first | ((with_reducible refine kAL ?_); (first | refine uK (e12) ?_ | refine uA ?_)) | refine uC ?_ | fail)
    all_goals first | (exfalso; omega) | (exact Fin.q Tryz.results77 (.cons (.agg rfl rfl ud42 rfl inf42 (us := [_, _, _, _]) rfl rfl) .nil) [])
   ·rw [decide_eq_true hme, Bool.true_and]
    dsimp only
    by_cases hv : sq = v
    ·subst hv
     rw [decide_eq_true rfl, if_pos rfl]
     have cX0 := wcutR_c h.waits j hh.w
     have hcl : (cutW h.waits j).length = h.waits.length := cutW_len ..
     rw [cutOk_yes hw rfl] at cX0
     have cT := note_c m k ⟨h.ticket, h.chans, cutW h.waits j, h.done⟩ j ⟨sq, 0, 11, 0⟩ hk (by omega)
     dsimp only at cT ⊢
     generalize cutW h.waits j = W at *
     have cX : Cd Tryz.prog 123 [.ln (h.waits.map tWt), i64 j] (.tup [.t (.lst (W.map tWt)), bo true]) [] := by have cX0' := Cd.frz cX0 0 rfl (by repeat' (first | exact FzL.nil | apply FzL.cons | exact FzR.nlt | exact FzR.all (by first | rfl | (simp <;> fail) | (simp; omega)) | exact FzR.sl (by first | exact Nat.le_refl _ | (simp <;> fail) | (simp; omega)) | apply FzR.aggL | exact FzR.same _)) rfl; exact Cd.drop cX0' rfl
     have e0 := code_c 0
     dsimp only [hlH, aR] at *
     first | refine Cd.enter' Tryz.func77 rfl Tryz.ntmps77 rfl ?_ | refine Cio.enter' Tryz.func77 rfl Tryz.ntmps77 rfl qM ?_ | refine C.enter' Tryz.func77 rfl Tryz.ntmps77 rfl qM ?_
     repeat' (first | ((with_reducible refine kAL ?_); (first | refine uK (e0) ?_ | refine uK (cX) ?_ | refine uI [0, 1, 2] (cT) ?_ | refine uA ?_)) | refine uC ?_ | fail)
     all_goals first | (exfalso; omega) | (exact Fin.q Tryz.results77 (.cons (.agg rfl rfl ud42 rfl inf42 (us := [_, _, _, _]) rfl rfl) .nil) [])
    ·rw [decide_eq_false hv, if_neg (by simp)]
     dsimp only [hlH, aR]
     first | refine Cd.enter' Tryz.func77 rfl Tryz.ntmps77 rfl ?_ | refine Cio.enter' Tryz.func77 rfl Tryz.ntmps77 rfl qM ?_ | refine C.enter' Tryz.func77 rfl Tryz.ntmps77 rfl qM ?_
     repeat' (first | ((with_reducible refine kAL ?_); (first | refine uK (e12) ?_ | refine uA ?_)) | refine uC ?_ | fail)
     all_goals first | (exfalso; omega) | (exact Fin.q Tryz.results77 (.cons (.agg rfl rfl ud42 rfl inf42 (us := [_, _, _, _]) rfl rfl) .nil) [])
 ·rw [cutOk_out ht, Bool.false_and, Bool.false_and, if_neg (by simp)]
  dsimp only [hlH, aR]
  by_cases h0 : t < 0
  all_goals
   by_cases hme : t = me
   all_goals
    first | refine Cd.enter' Tryz.func77 rfl Tryz.ntmps77 rfl ?_ | refine Cio.enter' Tryz.func77 rfl Tryz.ntmps77 rfl qM ?_ | refine C.enter' Tryz.func77 rfl Tryz.ntmps77 rfl qM ?_
    repeat' (first | ((with_reducible refine kAL ?_); (first | refine uK (e12) ?_ | refine uA ?_)) | refine uC ?_ | fail)
    all_goals first | (exfalso; omega) | (exact Fin.q Tryz.results77 (.cons (.agg rfl rfl ud42 rfl inf42 (us := [_, _, _, _]) rfl rfl) .nil) [])
theorem rapply_c (c : DConf) (h : DHall) (t n : Int) (q : DReq) (hq : okQ h q) (hh : okHl h) :
  Cd Tryz.prog 31 [aCf c, aHl h, i64 t, i64 n, aRq q] (.agg [i64 (applyH c h t n q).ticket, .sl 0 0 h.chans.length, .t (.lst ((applyH c h t n q).waits.map tWt)), .sl 1 0 h.done.length]) [.row 0 87 5 ((applyH c h t n q).chans.map tCh), .row 0 42 4 ((applyH c h t n q).done.map tR)] := by
 have cK := rhcopy_c h hh
 have hm1 := hh.c
 have hk1 := hh.d
 have x1 := ropen_c c h.chans.length h.done.length h q.arg rfl (by omega) hq.g
 have x2 := about_c h.chans.length h.done.length h q hq.a rfl rfl hh
 have x3 := rchoose_c h.chans.length h.done.length h t n q hq.c hq.l hq.t rfl rfl hh
 have x7 := rcancel_c h.chans.length h.done.length h t q.arg q.value rfl rfl hh
 have e1 := code_c 1
 obtain ⟨h1, h2⟩ := callH_len c h t n q
 unfold applyH
 obtain ⟨qk, qa, qv, qd, cs⟩ := q
 dsimp only at *
 have hN := fun (r : Rst) => note_c h.chans.length h.done.length (callH c h t n ⟨qk, qa, qv, qd, cs⟩).1 t r h2 (by omega)
 by_cases k1 : qk = 1
 ·have e : callH c h t n ⟨qk, qa, qv, qd, cs⟩ = openH c h qa := by unfold callH; rw [if_pos k1]
  rw [e] at h1 h2 hN ⊢
  generalize openH c h qa = O at *
  obtain ⟨⟨o1, o2, o3, o4⟩, ⟨r1, r2, r3, r4⟩⟩ := O
  have cN := hN ⟨n, r2, r3, r4⟩
  dsimp only [hlH, aR, aRq] at *
  clear x2 x3 x7 hN
  refine Cd.enter' Tryz.func31 rfl Tryz.ntmps31 rfl ?_
  repeat' (first | ((with_reducible refine kAL ?_); (first | refine uK (cK) ?_ | refine uK (e1) ?_ | refine uI [6, 4, 5] (x1) ?_ | refine uI [6, 4, 5] (cN) ?_ | refine uA ?_)) | refine uC ?_ | fail)
  all_goals first | (exfalso; omega) | (exact Fin.q Tryz.results31 (.cons (.agg rfl rfl ud49 rfl inf49 (us := [_, _, _, _]) rfl rfl) .nil) [4, 5])
 ·by_cases k3 : qk = 3
  ·have e : callH c h t n ⟨qk, qa, qv, qd, cs⟩ = chooseH h t n ⟨qk, qa, qv, qd, cs⟩ := by unfold callH; rw [if_neg k1, if_neg (by dsimp only; omega), if_pos k3]
   rw [e] at h1 h2 hN ⊢
   generalize chooseH h t n ⟨qk, qa, qv, qd, cs⟩ = O at *
   obtain ⟨⟨o1, o2, o3, o4⟩, ⟨r1, r2, r3, r4⟩⟩ := O
   have cN := hN ⟨n, r2, r3, r4⟩
   dsimp only [hlH, aR, aRq] at *
   clear x2 x1 x7 hN
   refine Cd.enter' Tryz.func31 rfl Tryz.ntmps31 rfl ?_
   repeat' (first | ((with_reducible refine kAL ?_); (first | refine uK (cK) ?_ | refine uK (e1) ?_ | refine uI [6, 4, 5] (x3) ?_ | refine uI [6, 4, 5] (cN) ?_ | refine uA ?_)) | refine uC ?_ | fail)
   all_goals first | (exfalso; omega) | (exact Fin.q Tryz.results31 (.cons (.agg rfl rfl ud49 rfl inf49 (us := [_, _, _, _]) rfl rfl) .nil) [4, 5])
  ·by_cases k7 : qk = 7
   ·have e : callH c h t n ⟨qk, qa, qv, qd, cs⟩ = cancelH h t qa qv := by unfold callH; rw [if_neg k1, if_neg (by dsimp only; omega), if_neg k3, if_neg (by dsimp only; omega), if_neg (by dsimp only; omega), if_pos k7]
    rw [e] at h1 h2 hN ⊢
    generalize cancelH h t qa qv = O at *
    obtain ⟨⟨o1, o2, o3, o4⟩, ⟨r1, r2, r3, r4⟩⟩ := O
    have cN := hN ⟨n, r2, r3, r4⟩
    dsimp only [hlH, aR, aRq] at *
    clear x2 x1 x3 hN
    refine Cd.enter' Tryz.func31 rfl Tryz.ntmps31 rfl ?_
    repeat' (first | ((with_reducible refine kAL ?_); (first | refine uK (cK) ?_ | refine uK (e1) ?_ | refine uI [6, 4, 5] (x7) ?_ | refine uI [6, 4, 5] (cN) ?_ | refine uA ?_)) | refine uC ?_ | fail)
    all_goals first | (exfalso; omega) | (exact Fin.q Tryz.results31 (.cons (.agg rfl rfl ud49 rfl inf49 (us := [_, _, _, _]) rfl rfl) .nil) [4, 5])
   ·by_cases ka : qk = 2 ∨ qk = 4 ∨ qk = 5 ∨ qk = 6
    ·have e : callH c h t n ⟨qk, qa, qv, qd, cs⟩ = aboutH h ⟨qk, qa, qv, qd, cs⟩ := by
      unfold callH aboutH lookH
      dsimp only
      rcases ka with rfl | rfl | rfl | rfl <;> simp
     rw [e] at h1 h2 hN ⊢
     generalize aboutH h ⟨qk, qa, qv, qd, cs⟩ = O at *
     obtain ⟨⟨o1, o2, o3, o4⟩, ⟨r1, r2, r3, r4⟩⟩ := O
     have cN := hN ⟨n, r2, r3, r4⟩
     dsimp only [hlH, aR, aRq] at *
     clear x3 x1 x7 hN
     by_cases j2 : qk = 2
     ·refine Cd.enter' Tryz.func31 rfl Tryz.ntmps31 rfl ?_
      repeat' (first | ((with_reducible refine kAL ?_); (first | refine uK (cK) ?_ | refine uK (e1) ?_ | refine uI [6, 4, 5] (x2) ?_ | refine uI [6, 4, 5] (cN) ?_ | refine uA ?_)) | refine uC ?_ | fail)
      all_goals first | (exfalso; omega) | (exact Fin.q Tryz.results31 (.cons (.agg rfl rfl ud49 rfl inf49 (us := [_, _, _, _]) rfl rfl) .nil) [4, 5])
     ·by_cases j4 : qk = 4
      ·refine Cd.enter' Tryz.func31 rfl Tryz.ntmps31 rfl ?_
       repeat' (first | ((with_reducible refine kAL ?_); (first | refine uK (cK) ?_ | refine uK (e1) ?_ | refine uI [6, 4, 5] (x2) ?_ | refine uI [6, 4, 5] (cN) ?_ | refine uA ?_)) | refine uC ?_ | fail)
       all_goals first | (exfalso; omega) | (exact Fin.q Tryz.results31 (.cons (.agg rfl rfl ud49 rfl inf49 (us := [_, _, _, _]) rfl rfl) .nil) [4, 5])
      ·by_cases j5 : qk = 5
       all_goals
        refine Cd.enter' Tryz.func31 rfl Tryz.ntmps31 rfl ?_
        repeat' (first | ((with_reducible refine kAL ?_); (first | refine uK (cK) ?_ | refine uK (e1) ?_ | refine uI [6, 4, 5] (x2) ?_ | refine uI [6, 4, 5] (cN) ?_ | refine uA ?_)) | refine uC ?_ | fail)
        all_goals first | (exfalso; omega) | (exact Fin.q Tryz.results31 (.cons (.agg rfl rfl ud49 rfl inf49 (us := [_, _, _, _]) rfl rfl) .nil) [4, 5])
    ·have e : callH c h t n ⟨qk, qa, qv, qd, cs⟩ = (h, ⟨0, 0, 1, 0⟩) := by unfold callH; rw [if_neg k1, if_neg (by dsimp only; omega), if_neg k3, if_neg (by dsimp only; omega), if_neg (by dsimp only; omega), if_neg k7]
     rw [e] at h1 h2 hN ⊢
     have cN := hN ⟨n, 0, 1, 0⟩
     dsimp only [hlH, aR, aRq] at *
     clear x1 x2 x3 x7 hN
     refine Cd.enter' Tryz.func31 rfl Tryz.ntmps31 rfl ?_
     repeat' (first | ((with_reducible refine kAL ?_); (first | refine uK (cK) ?_ | refine uK (e1) ?_ | refine uI [6, 4, 5] (cN) ?_ | refine uA ?_)) | refine uC ?_ | fail)
     all_goals first | (exfalso; omega) | (exact Fin.q Tryz.results31 (.cons (.agg rfl rfl ud49 rfl inf49 (us := [_, _, _, _]) rfl rfl) .nil) [4, 5])
end
section
attribute [local irreducible] AL AW RG Fin C Cd Cio thenQ blockQ retQ
set_option maxRecDepth 100000
theorem raF_c (c : DConf) (h : DHall) (t n : Int) (q : DReq) (hq : okQ h q) (hh : okHl h) :
  Cd Tryz.prog 31 [aCf c, aHl h, i64 t, i64 n, aRq q] (.agg [i64 (applyH c h t n q).ticket, .t (.lst ((applyH c h t n q).chans.map tCh)), .t (.lst ((applyH c h t n q).waits.map tWt)), .t (.lst ((applyH c h t n q).done.map tR))]) [] := by
 have h0 := rapply_c c h t n q hq hh
 have e1 := (applyH_len c h t n q).1
 have e2 := (applyH_len c h t n q).2
 generalize applyH c h t n q = g at *
 rw [← e1, ← e2] at h0
 have h0' := Cd.frz1 h0 0 rfl (by repeat' (first | exact FzL.nil | apply FzL.cons | exact FzR.nlt | exact FzR.all (by first | rfl | (simp <;> fail) | (simp; omega)) | exact FzR.sl (by first | exact Nat.le_refl _ | (simp <;> fail) | (simp; omega)) | apply FzR.aggL | exact FzR.same _)) rfl; have h0'' := Cd.frz1 h0' 1 rfl (by repeat' (first | exact FzL.nil | apply FzL.cons | exact FzR.nlt | exact FzR.all (by first | rfl | (simp <;> fail) | (simp; omega)) | exact FzR.sl (by first | exact Nat.le_refl _ | (simp <;> fail) | (simp; omega)) | apply FzR.aggL | exact FzR.same _)) rfl; exact Cd.drop h0'' rfl
theorem rsF_c (c : DConf) (hs : c.start.length ≤ 1152921504606846976) : Cd Tryz.prog 41 [aCf c] (.agg [i64 (startH c).ticket, .t (.lst ((startH c).chans.map tCh)), .t (.lst ((startH c).waits.map tWt)), .t (.lst ((startH c).done.map tR))]) [] := by
 have h0 := rstart_c c hs
 have l := startH_ln c
 have e1 := l.c
 have e2 := l.w
 have e3 := l.d
 have hh : Cd Tryz.prog 41 [aCf c] (.agg [i64 (startH c).ticket, .sl 0 0 (startH c).chans.length, .sl 1 0 (startH c).waits.length, .sl 2 0 (startH c).done.length]) [.row 0 87 5 ((startH c).chans.map tCh), .row 0 90 4 ((startH c).waits.map tWt), .row 0 42 4 ((startH c).done.map tR)] := by rw [e1, e2, e3]; exact h0
 generalize startH c = g at *
 have hh' := Cd.frz1 hh 0 rfl (by repeat' (first | exact FzL.nil | apply FzL.cons | exact FzR.nlt | exact FzR.all (by first | rfl | (simp <;> fail) | (simp; omega)) | exact FzR.sl (by first | exact Nat.le_refl _ | (simp <;> fail) | (simp; omega)) | apply FzR.aggL | exact FzR.same _)) rfl; have hh'' := Cd.frz1 hh' 1 rfl (by repeat' (first | exact FzL.nil | apply FzL.cons | exact FzR.nlt | exact FzR.all (by first | rfl | (simp <;> fail) | (simp; omega)) | exact FzR.sl (by first | exact Nat.le_refl _ | (simp <;> fail) | (simp; omega)) | apply FzR.aggL | exact FzR.same _)) rfl; have hh''' := Cd.frz1 hh'' 2 rfl (by repeat' (first | exact FzL.nil | apply FzL.cons | exact FzR.nlt | exact FzR.all (by first | rfl | (simp <;> fail) | (simp; omega)) | exact FzR.sl (by first | exact Nat.le_refl _ | (simp <;> fail) | (simp; omega)) | apply FzR.aggL | exact FzR.same _)) rfl; exact Cd.drop hh''' rfl
end
end Go.Proofs.YtbpgopomninedaaGreat
