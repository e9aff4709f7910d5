/- Joined: XTObj, XTReadR. -/
import Derived.Test.YtbpgopomninedaaGreatKAg
import Derived.Test.YtbpgopomninedaaGreatKAr
import Derived.Test.YtbpgopomninedaaGreatKAv
import Derived.Test.YtbpgopomninedaaGreatKAx
import Derived.Test.YtbpgopomninedaaGreatKAy
import Derived.Test.YtbpgopomninedaaGreatKAd
import Derived.Test.YtbpgopomninedaaGreatKAw
namespace Go.Proofs.YtbpgopomninedaaGreat
open Go.RowKit
set_option linter.unusedVariables false
set_option linter.unusedSimpArgs false
set_option linter.unnecessarySimpa false
set_option maxRecDepth 100000
set_option maxHeartbeats 64000000
section
attribute [local irreducible] AL AW RG Fin C Cd Cio thenQ blockQ retQ
set_option maxRecDepth 100000
theorem okHl.toH {h : DHall} (k : okHl h) : okH h := ⟨by have := k.c; omega, fun x hx => by have := k.b x hx; omega, by have := k.w.1; omega, fun x hx => by have := k.w.2 x hx; omega, by have := k.d; omega⟩
theorem newX_done (c : DConf) : (List.replicate (max (min c.threads 64) 0).toNat (⟨0, 0, 0, 0⟩ : Rst)) = (newX c).done := by
 unfold newX thN; rw [show max (min c.threads 64) 0 = max 0 (min c.threads 64) by omega]
theorem newX_F (c : DConf) : Cd Tryz.prog 40 [i64 c.cap, i64 c.threads] (.agg [i64 (newX c).cap, .t (.lst ((newX c).list.map tI)), .t (.lst ((newX c).done.map tR))]) [] := by
 have h0 := fifoNew_c c.cap c.threads
 have e : (max (min c.threads 64) 0).toNat = (newX c).done.length := by rw [← newX_done, List.length_replicate]
 rw [newX_done, e] at h0
 change Cd _ _ _ (.agg [i64 (newX c).cap, .t (.lst []), .t (.lst ((newX c).done.map tR))]) _
 change Cd _ _ _ (.agg [i64 (newX c).cap, .nl, .sl 0 0 (newX c).done.length]) _ at h0
 generalize (newX c).done = d at *
 generalize (newX c).cap = k at *
 have h0' := Cd.frz1 h0 0 rfl (by repeat' (first | exact FzL.nil | apply FzL.cons | exact FzR.nlt | exact FzR.all (by first | rfl | (simp <;> fail) | (simp; omega)) | exact FzR.sl (by first | exact Nat.le_refl _ | (simp <;> fail) | (simp; omega)) | apply FzR.aggL | exact FzR.same _)) rfl; exact Cd.drop h0' rfl
theorem start_o (c : DConf) (hs : c.start.length ≤ 1152921504606846976) : Cd Tryz.prog 11 [fCf c] (fU (startO c)) [] := by
 have c1 := check_c c hs
 have c2 := stF_c c hs
 have c3 := putH_c c (startH c) hs (startH_ok c).toH
 have c4 := newX_F c
 have c5 := putX_c c (newX c) hs (Nat.zero_le _) (by dsimp only [newX]; rw [List.length_replicate]; unfold thN; omega)
 unfold startO
 generalize startH c = h at *
 generalize newX c = x at *
 cases k : chkC c
 ·rw [k] at c1
  rw [if_neg (by simp)] at c1 ⊢
  refine Cd.enter' Tryz.func11 rfl Tryz.ntmps11 rfl ?_
  repeat' (first | ((with_reducible refine kAL ?_); (first | (refine zkD 2 rfl ?_; refine uA ?_; (try refine AL.wk (Wk.nz 2 rfl (by exact .nlt)) ?_)) | refine uK (c1) ?_ | refine uA ?_)) | refine uC ?_ | fail)
  all_goals first | (exfalso; omega) | (exact Fin.q Tryz.results11 (.cons (.tmp rfl) .nil) [])
 ·rw [k, if_pos rfl] at c1
  rw [if_pos rfl]
  by_cases k3 : c.kind = 3
  ·rw [if_pos k3]
   generalize putH c h = w at *
   obtain ⟨a0, a1, a2, a3, a4, a5, a6, a7, a8, a9, a10⟩ := c
   dsimp only [fCf, aCf] at *
   subst k3
   refine Cd.enter' Tryz.func11 rfl Tryz.ntmps11 rfl ?_
   repeat' (first | ((with_reducible refine kAL ?_); (first | refine uK (c1) ?_ | refine uA ?_)) | ((with_reducible refine kRG ?_); (first | refine uQ (c2) 0 ?_ | refine uQ (c3) 0 ?_ | refine uR ?_)) | refine uC ?_ | refine AW.drawU (id := 4) mixed 4 qR ?_ | fail)
   all_goals first | (exfalso; omega) | (exact Fin.q Tryz.results11 (.cons (.tmp rfl) .nil) [])
  ·rw [if_neg k3]
   generalize putX c x = w at *
   obtain ⟨a0, a1, a2, a3, a4, a5, a6, a7, a8, a9, a10⟩ := c
   dsimp only [fCf, aCf] at *
   refine Cd.enter' Tryz.func11 rfl Tryz.ntmps11 rfl ?_
   repeat' (first | ((with_reducible refine kAL ?_); (first | refine uK (c1) ?_ | refine uA ?_)) | ((with_reducible refine kRG ?_); (first | refine uQ (c4) 0 ?_ | refine uQ (c5) 0 ?_ | refine uR ?_)) | refine uC ?_ | refine AW.drawU (id := 5) mixed 4 qR ?_ | fail)
   all_goals first | (exfalso; omega) | (exact Fin.q Tryz.results11 (.cons (.tmp rfl) .nil) [])
theorem appX_len (b : Bool) (x : DCells) (t n : Int) (q : DReq) : (appX b x t n q).done.length = x.done.length := by
 unfold appX appl
 dsimp only
 repeat' split
 all_goals first | rfl | exact setR_len _ _ _
theorem wq5 {k a v x y : AV} : Wa (.agg [k, a, v, x, y]) (.agg [k, a, v, .any, .any]) := .aggL (.cons (.refl _) (.cons (.refl _) (.cons (.refl _) (.cons (.any _) (.cons (.any _) .nil)))))
theorem wq4 {p q r k a v x y : AV} : WaL [p, q, r, .agg [k, a, v, x, y]] [p, q, r, .agg [k, a, v, .any, .any]] := .cons (.refl _) (.cons (.refl _) (.cons (.refl _) (.cons wq5 .nil)))
theorem wq6 {p q r k a v x y z : AV} : WaL [p, q, r, .agg [k, a, v, x, y], z] [p, q, r, .agg [k, a, v, .any, .any], z] := .cons (.refl _) (.cons (.refl _) (.cons (.refl _) (.cons wq5 (.cons (.refl _) .nil))))
theorem fifo_F (x : DCells) (t n : Int) (q : DReq) (k1 : x.list.length ≤ 64) (k2 : x.done.length ≤ 64) : Cd Tryz.prog 54 [aCl x, i64 t, i64 n, aRq q] (.agg [i64 (appX false x t n q).cap, .t (.lst ((appX false x t n q).list.map tI)), .t (.lst ((appX false x t n q).done.map tR))]) [] := by
 have h0 := fifoApply_c x.cap x.list x.done t n q.kind q.arg q.value (by omega) (by omega)
 rw [← appX_len false x t n q] at h0
 change Cd _ _ _ (.agg [i64 (appX false x t n q).cap, .sl 0 0 (appX false x t n q).list.length, .sl 1 0 (appX false x t n q).done.length]) [.row 0 3 1 ((appX false x t n q).list.map tI), .row 0 42 4 ((appX false x t n q).done.map tR)] at h0
 generalize appX false x t n q = g at *
 have h1 : Cd Tryz.prog 54 [aCl x, i64 t, i64 n, aRq q] (.agg [i64 g.cap, .sl 0 0 g.list.length, .sl 1 0 g.done.length]) [.row 0 3 1 (g.list.map tI), .row 0 42 4 (g.done.map tR)] := h0.weak wq4
 have h1' := Cd.frz1 h1 0 rfl (by repeat' (first | exact FzL.nil | apply FzL.cons | exact FzR.nlt | exact FzR.all (by first | rfl | (simp <;> fail) | (simp; omega)) | exact FzR.sl (by first | exact Nat.le_refl _ | (simp <;> fail) | (simp; omega)) | apply FzR.aggL | exact FzR.same _)) rfl; have h1'' := Cd.frz1 h1' 1 rfl (by repeat' (first | exact FzL.nil | apply FzL.cons | exact FzR.nlt | exact FzR.all (by first | rfl | (simp <;> fail) | (simp; omega)) | exact FzR.sl (by first | exact Nat.le_refl _ | (simp <;> fail) | (simp; omega)) | apply FzR.aggL | exact FzR.same _)) rfl; exact Cd.drop h1'' rfl
theorem lifo_F (x : DCells) (t n : Int) (q : DReq) (k1 : x.list.length ≤ 64) (k2 : x.done.length ≤ 64) : Cd Tryz.prog 53 [aCl x, i64 t, i64 n, aRq q] (.agg [i64 (appX true x t n q).cap, .t (.lst ((appX true x t n q).list.map tI)), .t (.lst ((appX true x t n q).done.map tR))]) [] := by
 have h0 := lifoApply_c x.cap x.list x.done t n q.kind q.arg q.value (by omega) (by omega)
 rw [← appX_len true x t n q] at h0
 change Cd _ _ _ (.agg [i64 (appX true x t n q).cap, .sl 0 0 (appX true x t n q).list.length, .sl 1 0 (appX true x t n q).done.length]) [.row 0 3 1 ((appX true x t n q).list.map tI), .row 0 42 4 ((appX true x t n q).done.map tR)] at h0
 generalize appX true x t n q = g at *
 have h1 : Cd Tryz.prog 53 [aCl x, i64 t, i64 n, aRq q] (.agg [i64 g.cap, .sl 0 0 g.list.length, .sl 1 0 g.done.length]) [.row 0 3 1 (g.list.map tI), .row 0 42 4 (g.done.map tR)] := h0.weak wq4
 have h1' := Cd.frz1 h1 0 rfl (by repeat' (first | exact FzL.nil | apply FzL.cons | exact FzR.nlt | exact FzR.all (by first | rfl | (simp <;> fail) | (simp; omega)) | exact FzR.sl (by first | exact Nat.le_refl _ | (simp <;> fail) | (simp; omega)) | apply FzR.aggL | exact FzR.same _)) rfl; have h1'' := Cd.frz1 h1' 1 rfl (by repeat' (first | exact FzL.nil | apply FzL.cons | exact FzR.nlt | exact FzR.all (by first | rfl | (simp <;> fail) | (simp; omega)) | exact FzR.sl (by first | exact Nat.le_refl _ | (simp <;> fail) | (simp; omega)) | apply FzR.aggL | exact FzR.same _)) rfl; exact Cd.drop h1'' rfl
theorem ref_F (b : Bool) (x : DCells) (t n : Int) (q : DReq) (k1 : x.list.length ≤ 64) (k2 : x.done.length ≤ 64) : Cd Tryz.prog 33 [aCl x, i64 t, i64 n, aRq q, bo b] (.agg [i64 (appX b x t n q).cap, .t (.lst ((appX b x t n q).list.map tI)), .t (.lst ((appX b x t n q).done.map tR))]) [] :=
 (refApply_c x.cap x.list x.done t n q.kind q.arg q.value b (by omega) (by omega)).weak wq6
theorem fitsX_sizes {c : DConf} {x : DCells} (f : fitsX c x = true) : x.list.length ≤ 16 ∧ x.done.length ≤ 64 := by
 obtain ⟨h0, h1, h2, ⟨h3, h4⟩, h5, h6⟩ := fitsX_iff.1 f
 have hs := chkC_shaped h0
 have hb := hs.h1 h1
 have := hs.t1
 omega
theorem cells_o (c : DConf) (l : List Int) (t n : Int) (q : DReq) (hs : c.start.length ≤ 1152921504606846976) (hU : okU l) (hl : l.length ≤ 1152921504606846976) (hq : fitQ q = true) (hn : 0 ≤ n ∧ n ≤ 1048575) :
  Cd Tryz.prog 26 [fCf c, fU l, i64 t, i64 n, aRq q] (.tup [fU (if mayX c l then putX c (appX (decide (c.kind = 2)) (readX c l) t n q) else []), bo (mayX c l)]) [] := by
 have c1 := readX_c c l hs hU hl
 cases hm : mayX c l
 ·rw [hm] at c1
  rw [if_neg (by simp)]
  refine Cd.enter' Tryz.func26 rfl Tryz.ntmps26 rfl ?_
  repeat' (first | ((with_reducible refine kAL ?_); (first | (refine zkD 10 rfl ?_; refine uA ?_; (try refine AL.wk (Wk.nz 10 rfl (by exact .nlt)) ?_)) | refine uK (c1) ?_ | refine uA ?_)) | refine uC ?_ | fail)
  all_goals first | (exfalso; omega) | (exact Fin.q Tryz.results26 (.cons (.tmp rfl) (.cons (.tmp rfl) .nil)) [])
 ·obtain ⟨f, -⟩ := mayX_fits hm
  rw [hm] at c1
  rw [if_pos rfl]
  generalize readX c l = x at *
  obtain ⟨s1, s2⟩ := fitsX_sizes f
  have hb : ∀ b, fitsX c (appX b x t n q) = true := fun b => fitsX_apply f hq hn
  have c2 := fifo_F x t n q (by omega) (by omega)
  have c3 := lifo_F x t n q (by omega) (by omega)
  have c4 := fun b => putX_c c (appX b x t n q) hs (by have := (fitsX_sizes (hb b)).1; omega) (by have := (fitsX_sizes (hb b)).2; omega)
  have c5 := c4 true
  have c6 := c4 false
  clear c4
  by_cases k2 : c.kind = 2
  ·rw [decide_eq_true k2]
   generalize appX true x t n q = g at *
   generalize putX c g = w at *
   clear c6 c2
   obtain ⟨a0, a1, a2, a3, a4, a5, a6, a7, a8, a9, a10⟩ := c
   dsimp only [fCf, aCf, aRq] at *
   subst k2
   refine Cd.enter' Tryz.func26 rfl Tryz.ntmps26 rfl ?_
   repeat' (first | ((with_reducible refine kAL ?_); (first | refine uK (c1) ?_ | refine uA ?_)) | ((with_reducible refine kRG ?_); (first | refine uQ (c3) 0 ?_ | refine uQ (c5) 0 ?_ | refine uR ?_)) | refine uC ?_ | refine AW.drawU (id := 5) mixed 4 qR ?_ | fail)
   all_goals first | (exfalso; omega) | (exact Fin.q Tryz.results26 (.cons (.tmp rfl) (.cons (.tmp rfl) .nil)) [])
  ·rw [decide_eq_false k2]
   generalize appX false x t n q = g at *
   generalize putX c g = w at *
   clear c5 c3
   obtain ⟨a0, a1, a2, a3, a4, a5, a6, a7, a8, a9, a10⟩ := c
   dsimp only [fCf, aCf, aRq] at *
   refine Cd.enter' Tryz.func26 rfl Tryz.ntmps26 rfl ?_
   repeat' (first | ((with_reducible refine kAL ?_); (first | refine uK (c1) ?_ | refine uA ?_)) | ((with_reducible refine kRG ?_); (first | refine uQ (c6) 0 ?_ | refine uQ (c2) 0 ?_ | refine uR ?_)) | refine uC ?_ | refine AW.drawU (id := 6) mixed 4 qR ?_ | fail)
   all_goals first | (exfalso; omega) | (exact Fin.q Tryz.results26 (.cons (.tmp rfl) (.cons (.tmp rfl) .nil)) [])
theorem cloneU_c (l : List Int) (h : l.length ≤ 17592186044415) : Cd Tryz.prog 25 [.ln (l.map tU)] (fU l) [] := by
 have h0 : Cd Tryz.prog 25 [.ln (l.map tU)] (.sl 0 0 l.length) [.row 0 31 1 (l.map tU)] := by
  refine Cd.enter' Tryz.func25 rfl Tryz.ntmps25 rfl ?_
  repeat' (first | ((with_reducible refine kAL ?_); (first | refine A_eqnil rfl rfl 25 _ _ rfl ud25 rfl (fun b hb => ?_) | refine uA ?_)) | refine uC ?_ | refine kcc rfl (fun hc => ?_) (fun hc => ?_) | fail)
  ·have hl : l = [] := by simpa using hb hc
   subst hl
   refine Fin.wk (Wk.own 2 rfl 31 1 (.push rfl rfl)) ?_
   exact Fin.q Tryz.results25 (.cons (.tmp rfl) .nil) [0]
  ·exact Fin.q Tryz.results25 (.cons (.tmp rfl) .nil) [0]
 have h0' := Cd.frz1 h0 0 rfl (by repeat' (first | exact FzL.nil | apply FzL.cons | exact FzR.nlt | exact FzR.all (by first | rfl | (simp <;> fail) | (simp; omega)) | exact FzR.sl (by first | exact Nat.le_refl _ | (simp <;> fail) | (simp; omega)) | apply FzR.aggL | exact FzR.same _)) rfl; exact Cd.drop h0' rfl
theorem apply_o (c : DConf) (l : List Int) (t n : Int) (q : DReq) (hs : c.start.length ≤ 1152921504606846976) (hU : okU l) (hl : l.length ≤ 17592186044415) (hq : sRq q) (hq0 : q.cases.length ≤ 5864062014805) :
  Cd Tryz.prog 7 [fCf c, fU l, i64 t, i64 n, aRq q] (fU (applyO c l t n q)) [] := by
 have c0 := pFits_c q (by omega)
 have c1 := cloneU_c l hl
 unfold applyO mayO
 by_cases m1 : 0 ≤ t ∧ t < c.threads
 ·by_cases m2 : 0 ≤ n ∧ n ≤ 1048575
  ·rw [decide_eq_true m1, decide_eq_true m2, Bool.true_and, Bool.true_and]
   cases m3 : fitQ q
   ·rw [m3] at c0
    rw [if_neg (by simp)]
    dsimp only [fCf, aRq] at *
    refine Cd.enter' Tryz.func7 rfl Tryz.ntmps7 rfl ?_
    repeat' (first | ((with_reducible refine kAL ?_); (first | refine uK (c0) ?_ | refine uK (c1) ?_ | refine uA ?_)) | refine uC ?_ | fail)
    all_goals first | (exfalso; omega) | (exact Fin.q Tryz.results7 (.cons (.tmp rfl) .nil) [])
   ·rw [m3] at c0
    rw [if_pos rfl]
    by_cases k3 : c.kind = 3
    ·rw [if_pos k3]
     have c2 := readH_c c l hs hU (by omega)
     cases hm : mayH c l
     ·rw [hm] at c2
      rw [if_neg (by simp)]
      obtain ⟨a0, a1, a2, a3, a4, a5, a6, a7, a8, a9, a10⟩ := c
      dsimp only [fCf, aCf, aRq] at *
      subst k3
      refine Cd.enter' Tryz.func7 rfl Tryz.ntmps7 rfl ?_
      repeat' (first | ((with_reducible refine kAL ?_); (first | refine uK (c0) ?_ | refine uK (c1) ?_ | refine uK (c2) ?_ | refine uA ?_)) | refine uC ?_ | fail)
      all_goals first | (exfalso; omega) | (exact Fin.q Tryz.results7 (.cons (.tmp rfl) .nil) [])
     ·obtain ⟨f, -⟩ := mayH_fits hm
      rw [hm] at c2
      rw [if_pos rfl]
      generalize readH c l = h at *
      have ok := (fitsH_sizes f).1
      have c3 := apF_c c h t n q (fitsH_okQ f hq hq0) ok
      have c4 := putH_c c (applyH c h t n q) hs (fitsH_sizes (fitsH_apply f m3 m2)).1.toH
      generalize applyH c h t n q = g at *
      generalize putH c g = w at *
      obtain ⟨a0, a1, a2, a3, a4, a5, a6, a7, a8, a9, a10⟩ := c
      dsimp only [fCf, aCf, aRq] at *
      subst k3
      refine Cd.enter' Tryz.func7 rfl Tryz.ntmps7 rfl ?_
      repeat' (first | ((with_reducible refine kAL ?_); (first | refine uK (c0) ?_ | refine uK (c2) ?_ | refine uA ?_)) | ((with_reducible refine kRG ?_); (first | refine uQ (c3) 0 ?_ | refine uQ (c4) 0 ?_ | refine uR ?_)) | refine uC ?_ | refine AW.drawU (id := 11) mixed 4 qR ?_ | fail)
      all_goals first | (exfalso; omega) | (exact Fin.q Tryz.results7 (.cons (.tmp rfl) .nil) [])
    ·rw [if_neg k3]
     have c2 := cells_o c l t n q hs hU (by omega) m3 m2
     cases hm : mayX c l
     ·rw [hm] at c2
      rw [if_neg (by simp)] at c2 ⊢
      obtain ⟨a0, a1, a2, a3, a4, a5, a6, a7, a8, a9, a10⟩ := c
      dsimp only [fCf, aCf, aRq] at *
      refine Cd.enter' Tryz.func7 rfl Tryz.ntmps7 rfl ?_
      repeat' (first | ((with_reducible refine kAL ?_); (first | refine uK (c0) ?_ | refine uK (c1) ?_ | refine uK (c2) ?_ | refine uA ?_)) | refine uC ?_ | fail)
      all_goals first | (exfalso; omega) | (exact Fin.q Tryz.results7 (.cons (.tmp rfl) .nil) [])
     ·rw [hm] at c2
      rw [if_pos rfl] at c2 ⊢
      generalize putX c (appX (decide (c.kind = 2)) (readX c l) t n q) = w at *
      obtain ⟨a0, a1, a2, a3, a4, a5, a6, a7, a8, a9, a10⟩ := c
      dsimp only [fCf, aCf, aRq] at *
      refine Cd.enter' Tryz.func7 rfl Tryz.ntmps7 rfl ?_
      repeat' (first | ((with_reducible refine kAL ?_); (first | refine uK (c0) ?_ | refine uK (c2) ?_ | refine uA ?_)) | refine uC ?_ | fail)
      all_goals first | (exfalso; omega) | (exact Fin.q Tryz.results7 (.cons (.tmp rfl) .nil) [])
  ·rw [decide_eq_false m2, Bool.and_false, Bool.false_and, if_neg (by simp)]
   dsimp only [fCf, aRq] at *
   by_cases n0 : 0 ≤ n
   all_goals
    refine Cd.enter' Tryz.func7 rfl Tryz.ntmps7 rfl ?_
    repeat' (first | ((with_reducible refine kAL ?_); (first | refine uK (c1) ?_ | refine uA ?_)) | refine uC ?_ | fail)
    all_goals first | (exfalso; omega) | (exact Fin.q Tryz.results7 (.cons (.tmp rfl) .nil) [])
 ·rw [decide_eq_false m1, Bool.false_and, Bool.false_and, if_neg (by simp)]
  dsimp only [fCf, aRq] at *
  by_cases t0 : 0 ≤ t
  all_goals
   refine Cd.enter' Tryz.func7 rfl Tryz.ntmps7 rfl ?_
   repeat' (first | ((with_reducible refine kAL ?_); (first | refine uK (c1) ?_ | refine uA ?_)) | refine uC ?_ | fail)
   all_goals first | (exfalso; omega) | (exact Fin.q Tryz.results7 (.cons (.tmp rfl) .nil) [])
end
section
attribute [local irreducible] AL AW RG Fin C Cd Cio thenQ blockQ retQ
set_option maxRecDepth 100000
theorem sameU_c (a b : List Int) (ha : a.length ≤ 1152921504606846976) : Cd Tryz.prog 43 [.ln (a.map tU), .ln (b.map tU)] (bo (decide (a = b))) [] := by
 have h1 : (a.map tU).length = a.length := List.length_map _
 have h2 : (b.map tU).length = b.length := List.length_map _
 refine Cd.enter' Tryz.func43 rfl Tryz.ntmps43 rfl ?_
 repeat' (first | refine uA ?_ | refine uC ?_ | refine kcp rfl (fun hc => ?_) (fun hc => ?_) | fail)
 ·refine Fin.q Tryz.results43 (.cons (.tmp rfl) .nil) [] (hr := (.t ?_))
  have : a ≠ b := by rintro rfl; exact hc rfl
  simp [this]
 ·refine AW.loopP (fun (i : Nat) => ∀ j, j < i → a.getD j 0 = b.getD j 0) (fun (i : Nat) => (pu (pu (pu (pu (pu (fun _ => .any) 0 (.ln (a.map tU))) 1 (.ln (b.map tU))) 4 (.t (.v (.bool false)))) 12 (i64 (a.map tU).length)) 13 (i64 i))) (fun (i : Nat) => []) (fun (i : Nat) => a.length + 1 - i) (0) ?_ ?_ ?_
  ·intro j hj; omega
  ·exact Wk.cq 0
  ·intro i hi
   repeat' (first | refine uA ?_ | refine uR ?_ | refine uC ?_ | refine kcp rfl (fun hc => ?_) (fun hc => ?_) | refine AW.drawU (id := 6) mixed 0 qR ?_ | fail)
   ·refine Fin.q Tryz.results43 (.cons (.tmp rfl) .nil) [] (hr := (.t ?_))
    have : a ≠ b := by rintro rfl; exact hc rfl
    simp [this]
   ·refine ⟨i + 1, fun j hj => ?_, by omega, ?_⟩
    ·by_cases e : j = i
     ·subst e; exact Decidable.not_not.1 hc
     ·exact hi j (by omega)
    ·exact Wk.cq 0
   ·refine Fin.q Tryz.results43 (.cons (.tmp rfl) .nil) [] (hr := (.t ?_))
    have : a = b := all_eq (z := 0) (by omega) fun j hj => hi j (by omega)
    simp [this]
theorem rdRow_min (l : List Int) (n : Nat) (m : Int) (k : Nat) (h : k = min m.toNat n) : rdRow l k m = rdRow l n m := by subst h; rw [rdRow_eq, rdRow_eq]; congr 2; omega
theorem rdKs_take (l : List Int) (m : Int) : rdKs l 3 m = ((l.take 3).take m.toNat).map rdK := by unfold rdKs; rw [List.take_take]
theorem rhall_c (c : DConf) (l : List Int) (hU : okU l) (n m t : Nat) (hn : c.cap = n) (hm : c.chans = m) (ht : c.threads = t) (hlen : l.length = 1 + m * (n + 1) + t * 4 + t) (hmn : m * (n + 1) ≤ 72) (htt : t ≤ 64) :
  Cd Tryz.prog 42 [aCf c, fU l] (fHl ⟨l.headD 0 % 4294967296, rdCs n (l.drop 1) m, rdWs (l.drop (1 + m * (n + 1))) t, rdRs (l.drop (1 + m * (n + 1) + t * 4)) t⟩) [] := by
 have g1 : (l.map tU).length = l.length := List.length_map _
 obtain ⟨a0, ha0⟩ : ∃ a, l[0]? = some a := ⟨_, List.getElem?_eq_getElem (by omega)⟩
 have hb0 := okU_at hU ha0
 have hmul : ∀ i, i ≤ m → i * (n + 1) ≤ m * (n + 1) := fun i hi => Nat.mul_le_mul_right _ hi
 have hm72 : m ≤ 72 := Nat.le_trans (Nat.le_mul_of_pos_right m (Nat.succ_pos n)) hmn
 rw [headD_of ha0]
 refine Cd.enter' Tryz.func42 rfl Tryz.ntmps42 rfl ?_
 repeat' (first | refine uA ?_ | refine uC ?_ | fail)
 all_goals first | (exfalso; omega) | skip
 refine AW.wk (Wk.ownB 2 1 rfl rfl 87 5 (.push rfl rfl) rfl) ?_
 refine AW.loopP (fun (i : Nat) => i ≤ m) (fun (i : Nat) => (pu (pu (pu (pu (pu (pu (fun _ => .any) 1 (fU l)) 2 (.ptr 0 0)) 4 (.ptr 1 0)) 5 (.ptr 2 0)) 6 (i64 (1 + i * (n + 1) : Nat))) 7 (i64 i))) (fun (i : Nat) => [.box 24 (cfCs c), .box 49 [i64 0, .nl, .nl, .nl], .box 49 [i64 (a0 % 4294967296), .sl 3 i i, .nl, .nl], .row i 87 5 ((rdCs n (l.drop 1) i).map tCh)]) (fun (i : Nat) => m - i) (0) ?_ ?_ ?_
 ·exact Nat.zero_le _
 ·rw [Nat.zero_mul]
  exact Wk.cq 4
 ·intro i h3
  have hL := rdCs_len n (l.drop 1) i
  have hLt : (rdCs n l.tail i).length = i := rdCs_len n l.tail i
  have hM := hmul i h3
  by_cases hi : i < m
  ·have hM1 := hmul (i + 1) hi
   have e1 : 1 + (i + 1) * (n + 1) = 1 + i * (n + 1) + (1 + n) := by rw [Nat.succ_mul]; omega
   obtain ⟨a, ha⟩ : ∃ a, l[1 + i * (n + 1)]? = some a := ⟨_, List.getElem?_eq_getElem (by omega)⟩
   have hb := okU_at hU ha
   have e0 : (l.drop (1 + i * (n + 1))).headD 0 = a := by rw [drop_cons_of ha]; rfl
   have hsx := rdCs_succ n (l.drop 1) i
   rw [List.drop_drop] at hsx
   unfold rdC at hsx
   rw [e0, List.drop_drop] at hsx
   generalize hp : 1 + i * (n + 1) = p at *
   have hz : rdRow (l.drop (p + 1)) 0 (a / 1048576 % 16) = [] := by simp [rdRow]
   repeat' (first | refine uA ?_ | refine uC ?_ | fail)
   all_goals first | (exfalso; omega) | skip
   refine AW.wk (Wk.ownB 4 4 rfl rfl 3 1 (.push rfl rfl) rfl) ?_
   refine AW.loopP (fun (x : Nat × Nat × Nat) => x.1 ≤ min (a / 1048576 % 16).toNat n ∧ x.2.2 = (rdRow (l.drop (p + 1)) x.1 (a / 1048576 % 16)).length) (fun (x : Nat × Nat × Nat) => (pu (pu (pu (pu (pu (pu (pu (pu (pu (fun _ => .any) 1 (fU l)) 2 (.ptr 0 0)) 4 (.ptr 1 0)) 5 (.ptr 2 0)) 6 (i64 p)) 7 (i64 i)) 8 (u64 a)) 9 (.ptr 4 0)) 10 (i64 x.1))) (fun (x : Nat × Nat × Nat) => [.box 24 (cfCs c), .box 49 [i64 0, .nl, .nl, .nl], .box 49 [i64 (a0 % 4294967296), .sl 3 i i, .nl, .nl], .row i 87 5 ((rdCs n (l.drop 1) i).map tCh), .box 87 [i64 (a % 4096), i64 (a / 4096 % 16), bo (decide (a / 65536 % 2 = 1)), bo (decide (a / 131072 % 2 = 1)), .sl 5 x.2.1 x.2.2], .row x.2.1 3 1 ((rdRow (l.drop (p + 1)) x.1 (a / 1048576 % 16)).map tI)]) (fun (x : Nat × Nat × Nat) => n - x.1) ((0, 0, 0)) ?_ ?_ ?_
   ·exact ⟨Nat.zero_le _, by rw [hz]; rfl⟩
   ·dsimp only
    rw [hz]
    exact Wk.cq 6
   ·rintro ⟨j, k, q⟩ ⟨h4, h5⟩
    dsimp only at h4 h5 ⊢
    have hR := rdRow_len (l.drop (p + 1)) j (a / 1048576 % 16)
    by_cases hj : j < min (a / 1048576 % 16).toNat n
    ·obtain ⟨b, hb1⟩ : ∃ b, l[p + 1 + j]? = some b := ⟨_, List.getElem?_eq_getElem (by omega)⟩
     have hb2 : (l.drop (p + 1))[j]? = some b := by rw [List.getElem?_drop]; exact hb1
     have hbb := okU_at hU hb1
     have hs := rdRow_succ (m := a / 1048576 % 16) hb2 (by omega)
     have hb3 : l[Int.toNat ((p : Int) + 1 + (j : Int))]? = some b := by rw [show Int.toNat ((p : Int) + 1 + (j : Int)) = p + 1 + j by omega]; exact hb1
     clear hb1 hb2 ha ha0
     repeat' (first | refine uA ?_ | ((with_reducible refine kRG ?_); (first | refine R_lit (N := 6) rfl rfl 22 1 _ rfl ud22 inf3 (.cons rfl .nil) (els := [[_]]) rfl (by exact (rfl : _ = List.map tI [_])) rfl (Nat.ne_of_beq_eq_false rfl) (Nat.le_of_ble_eq_true rfl) (Nat.le_of_ble_eq_true rfl) rfl qN ?_ | refine uR ?_)) | refine uC ?_ | refine AW.drawU (id := 11) mixed 2 qR ?_ | fail)
     all_goals first | (exfalso; omega) | skip
     refine ⟨(j + 1, k + 1, q + 1), ⟨by dsimp only; omega, by dsimp only; rw [hs]; simp; omega⟩, by dsimp only; omega, ?_⟩
     rw [hs]
     exact Wk.cq 6
    ·obtain rfl : j = min (a / 1048576 % 16).toNat n := by omega
     rw [rdRow_min _ n _ _ rfl] at h5 ⊢
     refine AW.wk (Wk.freezeB 5 rfl 4 rfl (.cons (by first | exact .all (by first | rfl | (simp <;> fail) | (simp; omega)) | exact .nlt | exact .same _) (.cons (by first | exact .all (by first | rfl | (simp <;> fail) | (simp; omega)) | exact .nlt | exact .same _) (.cons (by first | exact .all (by first | rfl | (simp <;> fail) | (simp; omega)) | exact .nlt | exact .same _) (.cons (by first | exact .all (by first | rfl | (simp <;> fail) | (simp; omega)) | exact .nlt | exact .same _) (.cons (by first | exact .all (by first | rfl | (simp <;> fail) | (simp; omega)) | exact .nlt | exact .same _) (.nil)))))) rfl) ?_
     repeat' (first | ((with_reducible refine kAL ?_); (first | refine A_lit rfl rfl 45 1 _ rfl ud45 inf87 (.cons rfl .nil) (els := [[_, _, _, _, _]]) rfl (by exact (rfl : _ = List.map tCh [⟨_, _, _, _, _⟩])) rfl (Nat.ne_of_beq_eq_false rfl) (Nat.le_of_ble_eq_true rfl) (Nat.le_of_ble_eq_true rfl) (.push qL qN) ?_ | refine A_append rfl rfl _ _ 45 rfl ud45 inf87 rfl rfl rfl (by (simp; omega)) (by exact .all rfl (by rfl)) qB qB (by exact app_one (f := tCh) (x := ⟨_, _, _, _, _⟩) (by omega)) qN qS ?_ | refine uA ?_ | refine uS 55 (fun hb => ?_) (fun hb => ?_))) | refine uC ?_ | fail)
     all_goals first | (exfalso; omega) | skip
     all_goals
      refine ⟨i + 1, by omega, by omega, ?_⟩
      rw [hsx, e1, hn]
      exact Wk.cq 4
  ·obtain rfl : i = m := by omega
   refine AW.wk (Wk.freezeB 3 rfl 2 rfl (.cons (.same _) (.cons (.all (by first | rfl | (simp <;> fail) | (simp; omega))) (.cons (.same _) (.cons (.same _) (.nil))))) rfl) ?_
   repeat' (first | refine uA ?_ | refine uC ?_ | fail)
   all_goals first | (exfalso; omega) | skip
   refine AW.wk (Wk.ownB 2 2 rfl rfl 90 4 (.push rfl rfl) rfl) ?_
   generalize hS : 1 + i * (n + 1) = S at *
   generalize rdCs n (l.drop 1) i = CS at *
   refine AW.loopP (fun (j : Nat) => j ≤ t) (fun (j : Nat) => (pu (pu (pu (pu (pu (pu (fun _ => .any) 1 (fU l)) 2 (.ptr 0 0)) 4 (.ptr 1 0)) 5 (.ptr 2 0)) 6 (i64 (S + j * 4 : Nat))) 11 (i64 j))) (fun (j : Nat) => [.box 24 (cfCs c), .box 49 [i64 0, .nl, .nl, .nl], .box 49 [i64 (a0 % 4294967296), .t (.lst (CS.map tCh)), .sl 3 j j, .nl], .row j 90 4 ((rdWs (l.drop S) j).map tWt)]) (fun (j : Nat) => t - j) (0) ?_ ?_ ?_
   ·exact Nat.zero_le _
   ·rw [Nat.zero_mul]
    exact Wk.cq3 [0, 1, 2, 4]
   ·intro j h4
    have hL2 := rdWs_len (l.drop S) j
    by_cases hj : j < t
    ·have e1 : S + (j + 1) * 4 = S + j * 4 + 4 := by omega
     obtain ⟨a, ha⟩ : ∃ a, l[S + j * 4]? = some a := ⟨_, List.getElem?_eq_getElem (by omega)⟩
     have hb := okU_at hU ha
     have e0 : (l.drop (S + j * 4)).headD 0 = a := by rw [drop_cons_of ha]; rfl
     have hsx := rdWs_succ (l.drop S) j
     rw [List.drop_drop] at hsx
     unfold rdW at hsx
     rw [e0, List.drop_drop] at hsx
     generalize hp : S + j * 4 = p at *
     rw [← rdKs_take] at hsx
     have hz : rdKs (l.drop (p + 1)) 0 (a / 2 % 8) = [] := by simp [rdKs]
     repeat' (first | refine uA ?_ | refine uC ?_ | fail)
     all_goals first | (exfalso; omega) | skip
     refine AW.wk (Wk.ownB 4 3 rfl rfl 72 3 (.push rfl rfl) rfl) ?_
     refine AW.loopP (fun (x : Nat × Nat × Nat) => x.1 ≤ min (a / 2 % 8).toNat 3 ∧ x.2.2 = (rdKs (l.drop (p + 1)) x.1 (a / 2 % 8)).length) (fun (x : Nat × Nat × Nat) => (pu (pu (pu (pu (pu (pu (pu (pu (pu (fun _ => .any) 1 (fU l)) 2 (.ptr 0 0)) 4 (.ptr 1 0)) 5 (.ptr 2 0)) 6 (i64 p)) 11 (i64 j)) 12 (u64 a)) 13 (.ptr 4 0)) 14 (i64 x.1))) (fun (x : Nat × Nat × Nat) => [.box 24 (cfCs c), .box 49 [i64 0, .nl, .nl, .nl], .box 49 [i64 (a0 % 4294967296), .t (.lst (CS.map tCh)), .sl 3 j j, .nl], .row j 90 4 ((rdWs (l.drop S) j).map tWt), .box 90 [bo (decide (a % 2 = 1)), i64 (a / 4294967296), i64 (a / 16 % 1048576), .sl 5 x.2.1 x.2.2], .row x.2.1 72 3 ((rdKs (l.drop (p + 1)) x.1 (a / 2 % 8)).map tCs)]) (fun (x : Nat × Nat × Nat) => 3 - x.1) ((0, 0, 0)) ?_ ?_ ?_
     ·exact ⟨Nat.zero_le _, by rw [hz]; rfl⟩
     ·dsimp only
      rw [hz]
      exact Wk.cq 6
     ·rintro ⟨q, k, r⟩ ⟨h4, h5⟩
      dsimp only at h4 h5 ⊢
      have hR : (rdKs (l.drop (p + 1)) q (a / 2 % 8)).length ≤ q := by simp [rdKs]; omega
      by_cases hq : q < min (a / 2 % 8).toNat 3
      ·obtain ⟨b, hb1⟩ : ∃ b, l[p + 1 + q]? = some b := ⟨_, List.getElem?_eq_getElem (by omega)⟩
       have hb2 : (l.drop (p + 1))[q]? = some b := by rw [List.getElem?_drop]; exact hb1
       have hbb := okU_at hU hb1
       have hs : rdKs (l.drop (p + 1)) (q + 1) (a / 2 % 8) = rdKs (l.drop (p + 1)) q (a / 2 % 8) ++ [⟨b % 256, b / 256 % 65536, b / 4294967296⟩] := rdKs_succ hb2 (by omega)
       have hb3 : l[Int.toNat ((p : Int) + 1 + (q : Int))]? = some b := by rw [show Int.toNat ((p : Int) + 1 + (q : Int)) = p + 1 + q by omega]; exact hb1
       clear hb1 hb2 ha ha0
       repeat' (first | ((with_reducible refine kAL ?_); (first | refine A_lit rfl rfl 26 1 _ rfl ud26 inf72 (.cons rfl .nil) (els := [[_, _, _]]) rfl (by exact (rfl : _ = List.map tCs [⟨_, _, _⟩])) rfl (Nat.ne_of_beq_eq_false rfl) (Nat.le_of_ble_eq_true rfl) (Nat.le_of_ble_eq_true rfl) (.push qL qN) ?_ | refine uA ?_)) | refine uC ?_ | fail)
       all_goals first | (exfalso; omega) | skip
       refine ⟨(q + 1, k + 1, r + 1), ⟨by dsimp only; omega, by dsimp only; rw [hs]; simp; omega⟩, by dsimp only; omega, ?_⟩
       rw [hs]
       exact Wk.cq 6
      ·obtain rfl : q = min (a / 2 % 8).toNat 3 := by omega
       have e5 : rdKs (l.drop (p + 1)) (min (a / 2 % 8).toNat 3) (a / 2 % 8) = rdKs (l.drop (p + 1)) 3 (a / 2 % 8) := by unfold rdKs; congr 2; omega
       rw [e5] at h5 ⊢
       refine AW.wk (Wk.freezeB 5 rfl 4 rfl (.cons (by first | exact .all (by first | rfl | (simp <;> fail) | (simp; omega)) | exact .nlt | exact .same _) (.cons (by first | exact .all (by first | rfl | (simp <;> fail) | (simp; omega)) | exact .nlt | exact .same _) (.cons (by first | exact .all (by first | rfl | (simp <;> fail) | (simp; omega)) | exact .nlt | exact .same _) (.cons (by first | exact .all (by first | rfl | (simp <;> fail) | (simp; omega)) | exact .nlt | exact .same _) (.nil))))) rfl) ?_
       repeat' (first | ((with_reducible refine kAL ?_); (first | refine A_append rfl rfl _ _ 46 rfl ud46 inf90 rfl rfl rfl (by (simp; omega)) (by exact .all rfl (by rfl)) qB qB (by exact app_one (f := tWt) (x := ⟨_, _, _, _⟩) (by omega)) qN qS ?_ | refine A_lit rfl rfl 46 1 _ rfl ud46 inf90 (.cons rfl .nil) (els := [[_, _, _, _]]) rfl (by exact (rfl : _ = List.map tWt [⟨_, _, _, _⟩])) rfl (Nat.ne_of_beq_eq_false rfl) (Nat.le_of_ble_eq_true rfl) (Nat.le_of_ble_eq_true rfl) (.push qL qN) ?_ | refine uA ?_ | refine uS 115 (fun hb => ?_) (fun hb => ?_))) | refine uC ?_ | fail)
       all_goals first | (exfalso; omega) | skip
       all_goals
        refine ⟨j + 1, by omega, by omega, ?_⟩
        rw [hsx, e1]
        exact Wk.cq 4
    ·obtain rfl : j = t := by omega
     refine AW.wk (Wk.freezeB 3 rfl 2 rfl (.cons (.same _) (.cons (.same _) (.cons (.all (by first | rfl | (simp <;> fail) | (simp; omega))) (.cons (.same _) (.nil))))) rfl) ?_
     repeat' (first | refine uA ?_ | refine uC ?_ | fail)
     all_goals first | (exfalso; omega) | skip
     refine AW.wk (Wk.ownB 2 3 rfl rfl 42 4 (.push rfl rfl) rfl) ?_
     generalize hS2 : S + j * 4 = S2 at *
     generalize rdWs (l.drop S) j = WS at *
     have hz : rdRs (l.drop S2) 0 = [] := by simp [rdRs]
     refine AW.loopP (fun (q : Nat) => q ≤ j) (fun (q : Nat) => (pu (pu (pu (pu (pu (pu (fun _ => .any) 1 (fU l)) 2 (.ptr 0 0)) 4 (.ptr 1 0)) 5 (.ptr 2 0)) 6 (i64 S2)) 16 (i64 q))) (fun (q : Nat) => [.box 24 (cfCs c), .box 49 [i64 0, .nl, .nl, .nl], .box 49 [i64 (a0 % 4294967296), .t (.lst (CS.map tCh)), .t (.lst (WS.map tWt)), .sl 3 q q], .row q 42 4 ((rdRs (l.drop S2) q).map tR)]) (fun (q : Nat) => j - q) (0) ?_ ?_ ?_
     ·exact Nat.zero_le _
     ·rw [hz]
      exact Wk.cq3 [0, 1, 2, 4]
     ·intro q h6
      have hL3 : (rdRs (l.drop S2) q).length = q := by simp [rdRs]; omega
      by_cases hq : q < j
      ·obtain ⟨a, ha⟩ : ∃ a, l[S2 + q]? = some a := ⟨_, List.getElem?_eq_getElem (by omega)⟩
       have ha2 : (l.drop S2)[q]? = some a := by rw [List.getElem?_drop]; exact ha
       have hb := okU_at hU ha
       have cR := rread_c a hb
       have hs : rdRs (l.drop S2) (q + 1) = rdRs (l.drop S2) q ++ [readR a] := by unfold rdRs; rw [List.take_add_one, ha2]; simp
       have hb3 : l[Int.toNat ((S2 : Int) + (q : Int))]? = some a := by rw [show Int.toNat ((S2 : Int) + (q : Int)) = S2 + q by omega]; exact ha
       clear ha ha2 ha0
       repeat' (first | refine uA ?_ | ((with_reducible refine kRG ?_); (first | refine uQ (cR) 0 ?_ | refine R_lit (N := 4) rfl rfl 47 1 _ rfl ud47 inf42 (.cons rfl .nil) (els := [[_, _, _, _]]) rfl (by exact (rfl : _ = List.map tR [⟨_, _, _, _⟩])) rfl (Nat.ne_of_beq_eq_false rfl) (Nat.le_of_ble_eq_true rfl) (Nat.le_of_ble_eq_true rfl) rfl qN ?_ | refine uR ?_)) | refine uC ?_ | refine AW.drawU (id := 29) mixed 2 qR ?_ | fail)
       all_goals first | (exfalso; omega) | skip
       refine ⟨q + 1, by omega, by omega, ?_⟩
       rw [hs]
       exact Wk.cq 4
      ·obtain rfl : q = j := by omega
       refine AW.wk (Wk.freezeB 3 rfl 2 rfl (.cons (by first | exact .all (by first | rfl | (simp <;> fail) | (simp; omega)) | exact .nlt | exact .same _) (.cons (by first | exact .all (by first | rfl | (simp <;> fail) | (simp; omega)) | exact .nlt | exact .same _) (.cons (by first | exact .all (by first | rfl | (simp <;> fail) | (simp; omega)) | exact .nlt | exact .same _) (.cons (by first | exact .all (by first | rfl | (simp <;> fail) | (simp; omega)) | exact .nlt | exact .same _) (.nil))))) rfl) ?_
       repeat' (first | refine uA ?_ | refine uC ?_ | fail)
       all_goals first | (exfalso; omega) | (exact Fin.q Tryz.results42 (.cons (.agg rfl rfl ud49 rfl inf49 (us := [_, _, _, _]) rfl rfl) .nil) [])
end
end Go.Proofs.YtbpgopomninedaaGreat
