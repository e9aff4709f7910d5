/- Joined: XTChans, XTChansB. -/
import Derived.Test.YtbpgopomninedaaGreatKAg
import Derived.Test.YtbpgopomninedaaGreatKAh
import Derived.Test.YtbpgopomninedaaGreatKAc
import Derived.Test.YtbpgopomninedaaGreatKAk
namespace Go.Proofs.YtbpgopomninedaaGreat
open Go.RowKit
set_option linter.unusedVariables false
set_option linter.unusedSimpArgs false
set_option linter.unnecessarySimpa false
set_option maxRecDepth 100000
set_option maxHeartbeats 64000000
section
attribute [local irreducible] AL AW RG Fin C Cd Cio thenQ blockQ retQ
set_option maxRecDepth 100000
attribute [local simp] putW_len cutW_len
structure DG where
 c : DChan
 l : List DWait
 r : Rst
 told : List DTold
 deriving DecidableEq
abbrev aC (c : DChan) : AV := .agg [i64 c.gen, i64 c.cap, bo c.used, bo c.closed, .ln (c.buf.map tI)]
def gA (g : DG) : AV := .tup [.agg [i64 g.c.gen, i64 g.c.cap, bo g.c.used, bo g.c.closed, .t (.lst (g.c.buf.map tI))], .t (.lst (g.l.map tWt)), .agg [i64 g.r.seq, i64 g.r.cas, i64 g.r.code, i64 g.r.value], .t (.lst (g.told.map tTd))]
def gR (g : DG) : AV := .agg [i64 g.c.gen, i64 g.c.cap, bo g.c.used, bo g.c.closed, .t (.lst (g.c.buf.map tI)), .t (.lst (g.l.map tWt)), i64 g.r.seq, i64 g.r.cas, i64 g.r.code, i64 g.r.value, .t (.lst (g.told.map tTd))]
def chB (c : DChan) (b : List Int) : DChan := ⟨c.gen, c.cap, c.used, c.closed, b⟩
theorem ccopy_c (c : DChan) (hb : c.buf.length ≤ 17592186044416) : Cd Tryz.prog 103 [aC c] (.agg [i64 c.gen, i64 c.cap, bo c.used, bo c.closed, .sl 0 0 c.buf.length]) [.row 0 3 1 (c.buf.map tI)] := by
 refine Cd.enter' Tryz.func103 rfl Tryz.ntmps103 rfl ?_
 repeat' (first | ((with_reducible refine kAL ?_); (first | refine uK (clone_I c.buf hb) ?_ | refine uA ?_)) | refine uC ?_ | fail)
 all_goals (exact Fin.q Tryz.results103 (.cons (.agg rfl rfl ud87 rfl inf87 (us := [_, _, _, _, _]) rfl rfl) .nil) [2])
theorem ccopyR_c (c : DChan) (hb : c.buf.length ≤ 17592186044416) : Cd Tryz.prog 114 [aC c] (.agg [i64 c.gen, i64 c.cap, bo c.used, bo c.closed, .sl 0 0 c.buf.length]) [.row 0 3 1 (c.buf.map tI)] := by
 have h1 : (c.buf.map tI).length = c.buf.length := List.length_map _
 refine Cd.enter' Tryz.func114 rfl Tryz.ntmps114 rfl ?_
 repeat' (first | refine uA ?_ | refine uC ?_ | fail)
 all_goals (exact Fin.q Tryz.results114 (.cons (.agg rfl rfl ud87 rfl inf87 (us := [_, _, _, _, _]) rfl rfl) .nil) [2])
theorem ended_c (l : List DWait) (t : Nat) (wh code v : Int) (w : DWait) (hw : l[t]? = some w) : Cd Tryz.prog 162 [.ln (l.map tWt), i64 t, i64 wh, i64 code, i64 v] (.agg [i64 t, i64 w.seq, i64 wh, i64 code, i64 v]) [] := by
 have h1 : (l.map tWt).length = l.length := List.length_map _
 have h2 := get_lt hw
 refine Cd.enter' Tryz.func162 rfl Tryz.ntmps162 rfl ?_
 repeat' (first | refine uA ?_ | refine uC ?_ | fail)
 all_goals first | (exfalso; omega) | (exact Fin.q Tryz.results162 (.cons (.agg rfl rfl ud165 rfl inf165 (us := [_, _, _, _, _]) rfl rfl) .nil) [])
theorem told_c (l : List DWait) (t : Nat) (wh code v : Int) (w : DWait) (hw : l[t]? = some w) : Cd Tryz.prog 148 [.ln (l.map tWt), i64 t, i64 wh, i64 code, i64 v] (.agg [i64 t, i64 w.seq, i64 wh, i64 code, i64 v]) [] := by
 have h1 : (l.map tWt).length = l.length := List.length_map _
 have h2 := get_lt hw
 refine Cd.enter' Tryz.func148 rfl Tryz.ntmps148 rfl ?_
 repeat' (first | refine uA ?_ | refine uC ?_ | fail)
 all_goals first | (exfalso; omega) | (exact Fin.q Tryz.results148 (.cons (.agg rfl rfl ud165 rfl inf165 (us := [_, _, _, _, _]) rfl rfl) .nil) [])
def rdyC (c : DChan) (h : Int) (l : List DWait) (d : Int) : Bool :=
 c.used && (if d = 1 then c.closed || (fir l 2 h).ok || decide ((c.buf.length : Int) < c.cap) else if d = 2 then c.closed || (fir l 1 h).ok || decide ((0 : Int) < c.buf.length) else false)
theorem ready_c (c : DChan) (h : Int) (l : List DWait) (d : Int) (hl : okW l) : Cd Tryz.prog 140 [aC c, i64 h, .ln (l.map tWt), i64 d] (bo (rdyC c h l d)) [] := by
 obtain ⟨g, cap, used, closed, buf⟩ := c
 have h1 : (buf.map tI).length = buf.length := List.length_map _
 unfold rdyC
 dsimp only [aC]
 cases used
 ·refine Cd.enter' Tryz.func140 rfl Tryz.ntmps140 rfl ?_
  repeat' (first | refine uA ?_ | refine uC ?_ | fail)
  all_goals first | (exfalso; omega) | (exact Fin.q Tryz.results140 (.cons (.tmp rfl) .nil) [])
 ·by_cases d1 : d = 1
  ·subst d1
   have cF := first_c l 2 h hl
   generalize (fir l 2 h) = F at cF
   obtain ⟨th, wh, ok⟩ := F
   dsimp only at cF ⊢
   by_cases hcc : (buf.length : Int) < cap
   all_goals
    cases closed <;> cases ok
    all_goals
     refine Cd.enter' Tryz.func140 rfl Tryz.ntmps140 rfl ?_
     repeat' (first | ((with_reducible refine kAL ?_); (first | refine uK (cF) ?_ | refine uA ?_)) | refine uC ?_ | fail)
     all_goals first | (exfalso; omega) | ((first | exact Fin.q Tryz.results140 (.cons (.tmp rfl) .nil) [] | refine Fin.q Tryz.results140 (.cons (.tmp rfl) .nil) [] (hr := (.t ?_))))
     all_goals first | (simp [hcc]; done) | (rw [decide_eq_true hcc]; simp; done) | (rw [decide_eq_false hcc]; simp; done) | (simp only [decide_eq_true hcc]; simp; done) | (simp only [decide_eq_false hcc]; simp; done) | skip
  ·by_cases d2 : d = 2
   ·subst d2
    have cF := first_c l 1 h hl
    generalize (fir l 1 h) = F at cF
    obtain ⟨th, wh, ok⟩ := F
    dsimp only at cF ⊢
    by_cases hcc : 0 < (buf.length : Int)
    all_goals
     cases closed <;> cases ok
     all_goals
      refine Cd.enter' Tryz.func140 rfl Tryz.ntmps140 rfl ?_
      repeat' (first | ((with_reducible refine kAL ?_); (first | refine uK (cF) ?_ | refine uA ?_)) | refine uC ?_ | fail)
      all_goals first | (exfalso; omega) | ((first | exact Fin.q Tryz.results140 (.cons (.tmp rfl) .nil) [] | refine Fin.q Tryz.results140 (.cons (.tmp rfl) .nil) [] (hr := (.t ?_))))
      all_goals first | (simp [hcc]; done) | (rw [decide_eq_true hcc]; simp; done) | (rw [decide_eq_false hcc]; simp; done) | (simp only [decide_eq_true hcc]; simp; done) | (simp only [decide_eq_false hcc]; simp; done) | skip
   ·refine Cd.enter' Tryz.func140 rfl Tryz.ntmps140 rfl ?_
    repeat' (first | refine uA ?_ | refine uC ?_ | fail)
    all_goals first | (exfalso; omega) | (refine Fin.q Tryz.results140 (.cons (.tmp rfl) .nil) [] (hr := (.t ?_)))
    all_goals simp [d1, d2]
theorem readyR_c (c : DChan) (h : Int) (l : List DWait) (d : Int) (hl : okW l) : Cd Tryz.prog 117 [aC c, i64 h, .ln (l.map tWt), i64 d] (bo (rdyC c h l d)) [] := by
 obtain ⟨g, cap, used, closed, buf⟩ := c
 have h1 : (buf.map tI).length = buf.length := List.length_map _
 unfold rdyC
 dsimp only [aC]
 cases used
 ·refine Cd.enter' Tryz.func117 rfl Tryz.ntmps117 rfl ?_
  repeat' (first | refine uA ?_ | refine uC ?_ | fail)
  all_goals first | (exfalso; omega) | (exact Fin.q Tryz.results117 (.cons (.tmp rfl) .nil) [])
 ·by_cases d1 : d = 1
  ·subst d1
   have cF := firstR_c l 2 h hl
   generalize (fir l 2 h) = F at cF
   obtain ⟨th, wh, ok⟩ := F
   dsimp only at cF ⊢
   by_cases hcc : (buf.length : Int) < cap
   all_goals
    cases closed <;> cases ok
    all_goals
     refine Cd.enter' Tryz.func117 rfl Tryz.ntmps117 rfl ?_
     repeat' (first | ((with_reducible refine kAL ?_); (first | refine uK (cF) ?_ | refine uA ?_)) | refine uC ?_ | fail)
     all_goals first | (exfalso; omega) | ((first | exact Fin.q Tryz.results117 (.cons (.tmp rfl) .nil) [] | refine Fin.q Tryz.results117 (.cons (.tmp rfl) .nil) [] (hr := (.t ?_))))
     all_goals first | (simp [hcc]; done) | (rw [decide_eq_true hcc]; simp; done) | (rw [decide_eq_false hcc]; simp; done) | (simp only [decide_eq_true hcc]; simp; done) | (simp only [decide_eq_false hcc]; simp; done) | skip
  ·by_cases d2 : d = 2
   ·subst d2
    have cF := firstR_c l 1 h hl
    generalize (fir l 1 h) = F at cF
    obtain ⟨th, wh, ok⟩ := F
    dsimp only at cF ⊢
    by_cases hcc : 0 < (buf.length : Int)
    all_goals
     cases closed <;> cases ok
     all_goals
      refine Cd.enter' Tryz.func117 rfl Tryz.ntmps117 rfl ?_
      repeat' (first | ((with_reducible refine kAL ?_); (first | refine uK (cF) ?_ | refine uA ?_)) | refine uC ?_ | fail)
      all_goals first | (exfalso; omega) | ((first | exact Fin.q Tryz.results117 (.cons (.tmp rfl) .nil) [] | refine Fin.q Tryz.results117 (.cons (.tmp rfl) .nil) [] (hr := (.t ?_))))
      all_goals first | (simp [hcc]; done) | (rw [decide_eq_true hcc]; simp; done) | (rw [decide_eq_false hcc]; simp; done) | (simp only [decide_eq_true hcc]; simp; done) | (simp only [decide_eq_false hcc]; simp; done) | skip
   ·refine Cd.enter' Tryz.func117 rfl Tryz.ntmps117 rfl ?_
    repeat' (first | refine uA ?_ | refine uC ?_ | fail)
    all_goals first | (exfalso; omega) | (refine Fin.q Tryz.results117 (.cons (.tmp rfl) .nil) [] (hr := (.t ?_)))
    all_goals simp [d1, d2]
def thW (l : List DWait) (f : FS) : DWait := l.getD f.th.toNat default
def thV (l : List DWait) (f : FS) : Int := ((thW l f).cases.getD f.wh.toNat default).value
def sendG (c : DChan) (h : Int) (l : List DWait) (v : Int) : DG :=
 if (fir l 2 h).ok then ⟨c, cutW l (fir l 2 h).th, ⟨0, 0, 0, 0⟩, [⟨(fir l 2 h).th, ⟨(thW l (fir l 2 h)).seq, (fir l 2 h).wh, 0, v⟩⟩]⟩ else ⟨chB c (c.buf ++ [v]), l, ⟨0, 0, 0, 0⟩, []⟩
def recvG (c : DChan) (h : Int) (l : List DWait) : DG :=
 if (fir l 1 h).ok then ⟨chB c ((c.buf ++ [thV l (fir l 1 h)]).drop 1), cutW l (fir l 1 h).th, ⟨0, 0, 0, (c.buf ++ [thV l (fir l 1 h)]).headD 0⟩, [⟨(fir l 1 h).th, ⟨(thW l (fir l 1 h)).seq, (fir l 1 h).wh, 0, 0⟩⟩]⟩
 else ⟨chB c (c.buf.drop 1), l, ⟨0, 0, 0, c.buf.headD 0⟩, []⟩
theorem send_c (c : DChan) (h : Int) (l : List DWait) (v : Int) (hl : okW l) (hb : c.buf.length ≤ 17592186043904) : Cd Tryz.prog 172 [aC c, i64 h, .ln (l.map tWt), i64 v] (gA (sendG c h l v)) [] := by
 have hcc := ccopy_c c (by omega)
 have cF := first_c l 2 h hl
 unfold sendG
 cases hk : (fir l 2 h).ok
 ·rw [hk] at cF
  obtain ⟨g, cap, used, closed, buf⟩ := c
  have h1 : (buf.map tI).length = buf.length := List.length_map _
  dsimp only at hb
  dsimp only [aC] at hcc
  have h0 : Cd Tryz.prog 172 [.agg [i64 g, i64 cap, bo used, bo closed, .ln (buf.map tI)], i64 h, .ln (l.map tWt), i64 v] (.tup [.agg [i64 g, i64 cap, bo used, bo closed, .sl 0 0 (buf.length + 1)], .sl 1 0 l.length, .agg [i64 0, i64 0, i64 0, i64 0], .nl]) [.row 0 3 1 ((buf ++ [v]).map tI), .row 0 90 4 (l.map tWt)] := by
   refine Cd.enter' Tryz.func172 rfl Tryz.ntmps172 rfl ?_
   repeat' (first | ((with_reducible refine kAL ?_); (first | refine uK (hcc) ?_ | refine uK (cF) ?_ | refine A_lit rfl rfl 22 1 _ rfl ud22 inf3 (.cons rfl .nil) (els := [[_]]) rfl (by exact (rfl : _ = List.map tI [_])) rfl (Nat.ne_of_beq_eq_false rfl) (Nat.le_of_ble_eq_true rfl) (Nat.le_of_ble_eq_true rfl) (.push qL qN) ?_ | refine uA ?_)) | ((with_reducible refine kRG ?_); (first | refine uQ (wcopy_c l hl) 6 ?_ | refine uR ?_)) | refine uC ?_ | refine AW.drawU (id := 8) mixed 1 qR ?_ | fail)
   all_goals first | (exfalso; omega) | (exact Fin.q Tryz.results172 (.cons (.agg rfl rfl ud87 rfl inf87 (us := [_, _, _, _, _]) rfl rfl) (.cons (.tmp rfl) (.cons (.agg rfl rfl ud42 rfl inf42 (us := [_, _, _, _]) rfl rfl) (.cons (.tmp rfl) .nil)))) [3, 6])
  simp only [Bool.false_eq_true, if_false, gA, chB]
  have h0' := Cd.frz h0 0 rfl (by repeat' (first | exact FzL.nil | apply FzL.cons | exact FzR.nlt | exact FzR.all (by first | rfl | (simp <;> fail) | (simp; omega)) | exact FzR.sl (by first | exact Nat.le_refl _ | (simp <;> fail) | (simp; omega)) | apply FzR.aggL | exact FzR.same _)) rfl; have h0'' := Cd.frz h0' 1 rfl (by repeat' (first | exact FzL.nil | apply FzL.cons | exact FzR.nlt | exact FzR.all (by first | rfl | (simp <;> fail) | (simp; omega)) | exact FzR.sl (by first | exact Nat.le_refl _ | (simp <;> fail) | (simp; omega)) | apply FzR.aggL | exact FzR.same _)) rfl; exact Cd.drop h0'' rfl
 ·obtain ⟨t, m, w, k, e1, e2, hw, hon, hc, e3, e4⟩ := fir_ok hk
  have hT : thW l (fir l 2 h) = w := by unfold thW; rw [e1, Int.toNat_natCast, getD_of hw]
  have cE := ended_c l t m 0 v w hw
  have cX := wcut_c l t hl
  rw [cutOk_yes hw hon] at cX
  rw [hk, e1, e2] at cF
  rw [if_pos rfl, hT, e1, e2]
  obtain ⟨g, cap, used, closed, buf⟩ := c
  dsimp only at hb
  dsimp only [aC] at hcc
  have h0 : Cd Tryz.prog 172 [.agg [i64 g, i64 cap, bo used, bo closed, .ln (buf.map tI)], i64 h, .ln (l.map tWt), i64 v] (.tup [.agg [i64 g, i64 cap, bo used, bo closed, .sl 0 0 buf.length], .sl 1 0 l.length, .agg [i64 0, i64 0, i64 0, i64 0], .sl 2 0 1]) [.row 0 3 1 (buf.map tI), .row 0 90 4 ((cutW l t).map tWt), .row 0 165 5 [tTd ⟨t, ⟨w.seq, m, 0, v⟩⟩]] := by
   refine Cd.enter' Tryz.func172 rfl Tryz.ntmps172 rfl ?_
   repeat' (first | ((with_reducible refine kAL ?_); (first | refine uK (hcc) ?_ | refine uK (cF) ?_ | refine uK (cE) ?_ | refine uK (cX) ?_ | refine uA ?_)) | ((with_reducible refine kRG ?_); (first | refine R_lit (N := 7) rfl rfl 141 1 _ rfl ud141 inf165 (.cons rfl .nil) (els := [[_, _, _, _, _]]) rfl (by exact (rfl : _ = List.map tTd [⟨t, ⟨w.seq, m, 0, v⟩⟩])) rfl (Nat.ne_of_beq_eq_false rfl) (Nat.le_of_ble_eq_true rfl) (Nat.le_of_ble_eq_true rfl) rfl qN ?_ | refine uR ?_)) | refine uC ?_ | refine AW.drawU (id := 6) mixed 1 qR ?_ | fail)
   all_goals first | (exfalso; omega) | (exact Fin.q Tryz.results172 (.cons (.agg rfl rfl ud87 rfl inf87 (us := [_, _, _, _, _]) rfl rfl) (.cons (.tmp rfl) (.cons (.agg rfl rfl ud42 rfl inf42 (us := [_, _, _, _]) rfl rfl) (.cons (.tmp rfl) .nil)))) [3, 6, 7])
  have h0' := Cd.frz h0 0 rfl (by repeat' (first | exact FzL.nil | apply FzL.cons | exact FzR.nlt | exact FzR.all (by first | rfl | (simp <;> fail) | (simp; omega)) | exact FzR.sl (by first | exact Nat.le_refl _ | (simp <;> fail) | (simp; omega)) | apply FzR.aggL | exact FzR.same _)) rfl; have h0'' := Cd.frz h0' 1 rfl (by repeat' (first | exact FzL.nil | apply FzL.cons | exact FzR.nlt | exact FzR.all (by first | rfl | (simp <;> fail) | (simp; omega)) | exact FzR.sl (by first | exact Nat.le_refl _ | (simp <;> fail) | (simp; omega)) | apply FzR.aggL | exact FzR.same _)) rfl; have h0''' := Cd.frz h0'' 2 rfl (by repeat' (first | exact FzL.nil | apply FzL.cons | exact FzR.nlt | exact FzR.all (by first | rfl | (simp <;> fail) | (simp; omega)) | exact FzR.sl (by first | exact Nat.le_refl _ | (simp <;> fail) | (simp; omega)) | apply FzR.aggL | exact FzR.same _)) rfl; exact Cd.drop h0''' rfl
theorem recv_c (c : DChan) (h : Int) (l : List DWait) (hl : okW l) (hb : c.buf.length ≤ 17592186043904) (hr : 0 < c.buf.length ∨ (fir l 1 h).ok = true) : Cd Tryz.prog 173 [aC c, i64 h, .ln (l.map tWt)] (gA (recvG c h l)) [] := by
 have hcc := ccopy_c c (by omega)
 have cF := first_c l 1 h hl
 unfold recvG
 cases hk : (fir l 1 h).ok
 ·rw [hk] at cF hr
  obtain ⟨g, cap, used, closed, buf⟩ := c
  have h1 : (buf.map tI).length = buf.length := List.length_map _
  dsimp only at hb hr
  dsimp only [aC] at hcc
  obtain ⟨x0, T, hB⟩ : ∃ x0 T, buf = x0 :: T := List.exists_cons_of_length_pos (by rcases hr with hr | hr; exact hr; cases hr)
  have hx0 : buf[0]? = some x0 := by rw [hB]; rfl
  have hd : buf.drop 1 = T := by rw [hB]; rfl
  have hTl : T.length + 1 = buf.length := by rw [hB]; rfl
  have cK := clone_I (buf.drop 1) (by simp; omega)
  have h3 : (buf.drop 1).length = T.length := by rw [hd]
  rw [h3] at cK
  have h0 : Cd Tryz.prog 173 [.agg [i64 g, i64 cap, bo used, bo closed, .ln (buf.map tI)], i64 h, .ln (l.map tWt)] (.tup [.agg [i64 g, i64 cap, bo used, bo closed, .sl 0 0 T.length], .sl 1 0 l.length, .agg [i64 0, i64 0, i64 0, i64 x0], .nl]) [.row 0 3 1 ((buf.drop 1).map tI), .row 0 90 4 (l.map tWt)] := by
   refine Cd.enter' Tryz.func173 rfl Tryz.ntmps173 rfl ?_
   repeat' (first | ((with_reducible refine kAL ?_); (first | refine uK (hcc) ?_ | refine uK (cF) ?_ | refine uK (cK) ?_ | refine uA ?_)) | ((with_reducible refine kRG ?_); (first | refine uQ (wcopy_c l hl) 6 ?_ | refine uR ?_)) | refine uC ?_ | refine AW.drawU (id := 6) mixed 1 qR ?_ | fail)
   all_goals first | (exfalso; omega) | (exact Fin.q Tryz.results173 (.cons (.agg rfl rfl ud87 rfl inf87 (us := [_, _, _, _, _]) rfl rfl) (.cons (.tmp rfl) (.cons (.agg rfl rfl ud42 rfl inf42 (us := [_, _, _, _]) rfl rfl) (.cons (.tmp rfl) .nil)))) [5, 6])
  simp only [Bool.false_eq_true, if_false, gA, chB]
  rw [show buf.headD 0 = x0 by rw [hB]; rfl]
  have h0' := Cd.frz h0 0 rfl (by repeat' (first | exact FzL.nil | apply FzL.cons | exact FzR.nlt | exact FzR.all (by first | rfl | (simp <;> fail) | (simp; omega)) | exact FzR.sl (by first | exact Nat.le_refl _ | (simp <;> fail) | (simp; omega)) | apply FzR.aggL | exact FzR.same _)) rfl; have h0'' := Cd.frz h0' 1 rfl (by repeat' (first | exact FzL.nil | apply FzL.cons | exact FzR.nlt | exact FzR.all (by first | rfl | (simp <;> fail) | (simp; omega)) | exact FzR.sl (by first | exact Nat.le_refl _ | (simp <;> fail) | (simp; omega)) | apply FzR.aggL | exact FzR.same _)) rfl; exact Cd.drop h0'' rfl
 ·obtain ⟨t, m, w, k, e1, e2, hw, hon, hc, e3, e4⟩ := fir_ok hk
  have hT : thW l (fir l 1 h) = w := by unfold thW; rw [e1, Int.toNat_natCast, getD_of hw]
  have hV : thV l (fir l 1 h) = k.value := by unfold thV; rw [hT, e2, Int.toNat_natCast, getD_of hc]
  have cE := ended_c l t m 0 0 w hw
  have cX := wcut_c l t hl
  rw [cutOk_yes hw hon] at cX
  rw [hk, e1, e2] at cF
  rw [if_pos rfl, hV, hT, e1, e2]
  obtain ⟨g, cap, used, closed, buf⟩ := c
  have h1 : (buf.map tI).length = buf.length := List.length_map _
  have ht := get_lt hw
  have hm := get_lt hc
  have h2 : (l.map tWt).length = l.length := List.length_map _
  have h4 : (w.cases.map tCs).length = w.cases.length := List.length_map _
  dsimp only at hb
  dsimp only [aC] at hcc
  obtain ⟨x0, T, hB⟩ : ∃ x0 T, buf ++ [k.value] = x0 :: T := List.exists_cons_of_length_pos (by simp)
  have hx0 : (buf ++ [k.value])[0]? = some x0 := by rw [hB]; rfl
  have hd : (buf ++ [k.value]).drop 1 = T := by rw [hB]; rfl
  have hTl : T.length = buf.length := by have := congrArg List.length hB; simp at this; omega
  have cK := clone_I ((buf ++ [k.value]).drop 1) (by simp; omega)
  have h3 : ((buf ++ [k.value]).drop 1).length = buf.length := by simp
  rw [h3] at cK
  have h5 : ((buf ++ [k.value]).map tI).length = buf.length + 1 := by simp
  have h6 : (buf ++ [k.value]).length = buf.length + 1 := by simp
  have h0 : Cd Tryz.prog 173 [.agg [i64 g, i64 cap, bo used, bo closed, .ln (buf.map tI)], i64 h, .ln (l.map tWt)] (.tup [.agg [i64 g, i64 cap, bo used, bo closed, .sl 0 0 buf.length], .sl 1 0 l.length, .agg [i64 0, i64 0, i64 0, i64 x0], .sl 2 0 1]) [.row 0 3 1 (((buf ++ [k.value]).drop 1).map tI), .row 0 90 4 ((cutW l t).map tWt), .row 0 165 5 [tTd ⟨t, ⟨w.seq, m, 0, 0⟩⟩]] := by
   refine Cd.enter' Tryz.func173 rfl Tryz.ntmps173 rfl ?_
   repeat' (first | ((with_reducible refine kAL ?_); (first | refine uK (hcc) ?_ | refine uK (cF) ?_ | refine uK (cK) ?_ | refine uK (cE) ?_ | refine uK (cX) ?_ | refine uA ?_)) | ((with_reducible refine kRG ?_); (first | refine R_lit (N := 5) rfl rfl 22 1 _ rfl ud22 inf3 (.cons rfl .nil) (els := [[_]]) rfl (by exact (rfl : _ = List.map tI [_])) rfl (Nat.ne_of_beq_eq_false rfl) (Nat.le_of_ble_eq_true rfl) (Nat.le_of_ble_eq_true rfl) rfl qN ?_ | refine R_lit (N := 6) rfl rfl 141 1 _ rfl ud141 inf165 (.cons rfl .nil) (els := [[_, _, _, _, _]]) rfl (by exact (rfl : _ = List.map tTd [⟨t, ⟨w.seq, m, 0, 0⟩⟩])) rfl (Nat.ne_of_beq_eq_false rfl) (Nat.le_of_ble_eq_true rfl) (Nat.le_of_ble_eq_true rfl) rfl qN ?_ | refine uR ?_)) | refine uC ?_ | refine AW.drawU (id := 7) mixed 2 qR ?_ | refine AW.drawU (id := 12) mixed 1 qR ?_ | fail)
   all_goals first | (exfalso; omega) | (exact Fin.q Tryz.results173 (.cons (.agg rfl rfl ud87 rfl inf87 (us := [_, _, _, _, _]) rfl rfl) (.cons (.tmp rfl) (.cons (.agg rfl rfl ud42 rfl inf42 (us := [_, _, _, _]) rfl rfl) (.cons (.tmp rfl) .nil)))) [7, 9, 6])
  rw [show (buf ++ [k.value]).headD 0 = x0 by rw [hB]; rfl]
  have h0' := Cd.frz h0 0 rfl (by repeat' (first | exact FzL.nil | apply FzL.cons | exact FzR.nlt | exact FzR.all (by first | rfl | (simp <;> fail) | (simp; omega)) | exact FzR.sl (by first | exact Nat.le_refl _ | (simp <;> fail) | (simp; omega)) | apply FzR.aggL | exact FzR.same _)) rfl; have h0'' := Cd.frz h0' 1 rfl (by repeat' (first | exact FzL.nil | apply FzL.cons | exact FzR.nlt | exact FzR.all (by first | rfl | (simp <;> fail) | (simp; omega)) | exact FzR.sl (by first | exact Nat.le_refl _ | (simp <;> fail) | (simp; omega)) | apply FzR.aggL | exact FzR.same _)) rfl; have h0''' := Cd.frz h0'' 2 rfl (by repeat' (first | exact FzL.nil | apply FzL.cons | exact FzR.nlt | exact FzR.all (by first | rfl | (simp <;> fail) | (simp; omega)) | exact FzR.sl (by first | exact Nat.le_refl _ | (simp <;> fail) | (simp; omega)) | apply FzR.aggL | exact FzR.same _)) rfl; exact Cd.drop h0''' rfl
end
section
attribute [local irreducible] AL AW RG Fin C Cd Cio thenQ blockQ retQ
set_option maxRecDepth 100000
attribute [local simp] putW_len cutW_len
def doG (c : DChan) (h : Int) (l : List DWait) (d v : Int) : DG :=
 if rdyC c h l d then
  if d = 1 then (if c.closed then ⟨c, l, ⟨0, 0, 9, 0⟩, []⟩ else sendG c h l v)
  else if decide (0 < (c.buf.length : Int)) || (fir l 1 h).ok then recvG c h l else ⟨c, l, ⟨0, 0, 9, 0⟩, []⟩
 else ⟨c, l, ⟨0, 0, 10, 0⟩, []⟩
theorem rdy_d {c : DChan} {h : Int} {l : List DWait} {d : Int} (hr : rdyC c h l d = true) : d = 1 ∨ d = 2 := by
 unfold rdyC at hr
 by_cases d1 : d = 1
 ·exact .inl d1
 ·by_cases d2 : d = 2
  ·exact .inr d2
  ·rw [if_neg d1, if_neg d2, Bool.and_false] at hr; cases hr
theorem do_c (c : DChan) (h : Int) (l : List DWait) (d v : Int) (hl : okW l) (hb : c.buf.length ≤ 17592186043904) : Cd Tryz.prog 158 [aC c, i64 h, .ln (l.map tWt), i64 d, i64 v] (gA (doG c h l d v)) [] := by
 have h1 : (c.buf.map tI).length = c.buf.length := List.length_map _
 have hcc := ccopy_c c (by omega)
 have cF := first_c l 1 h hl
 have cR := ready_c c h l d hl
 have cW := wcopy_c l hl
 unfold doG
 cases hr : rdyC c h l d
 ·rw [hr] at cR
  rw [if_neg (by simp)]
  have h0 : Cd Tryz.prog 158 [aC c, i64 h, .ln (l.map tWt), i64 d, i64 v] (.tup [.agg [i64 c.gen, i64 c.cap, bo c.used, bo c.closed, .sl 0 0 c.buf.length], .sl 1 0 l.length, .agg [i64 0, i64 0, i64 10, i64 0], .nl]) [.row 0 3 1 (c.buf.map tI), .row 0 90 4 (l.map tWt)] := by
   refine Cd.enter' Tryz.func158 rfl Tryz.ntmps158 rfl ?_
   repeat' (first | ((with_reducible refine kAL ?_); (first | refine uK (cF) ?_ | refine uK (cR) ?_ | refine uK (hcc) ?_ | refine uK (cW) ?_ | refine uA ?_)) | refine uC ?_ | fail)
   all_goals first | (exfalso; omega) | (exact Fin.q Tryz.results158 (.cons (.agg rfl rfl ud87 rfl inf87 (us := [_, _, _, _, _]) rfl rfl) (.cons (.tmp rfl) (.cons (.agg rfl rfl ud42 rfl inf42 (us := [_, _, _, _]) rfl rfl) (.cons (.tmp rfl) .nil)))) [3, 4])
  unfold gA
  have h0' := Cd.frz h0 0 rfl (by repeat' (first | exact FzL.nil | apply FzL.cons | exact FzR.nlt | exact FzR.all (by first | rfl | (simp <;> fail) | (simp; omega)) | exact FzR.sl (by first | exact Nat.le_refl _ | (simp <;> fail) | (simp; omega)) | apply FzR.aggL | exact FzR.same _)) rfl; have h0'' := Cd.frz h0' 1 rfl (by repeat' (first | exact FzL.nil | apply FzL.cons | exact FzR.nlt | exact FzR.all (by first | rfl | (simp <;> fail) | (simp; omega)) | exact FzR.sl (by first | exact Nat.le_refl _ | (simp <;> fail) | (simp; omega)) | apply FzR.aggL | exact FzR.same _)) rfl; exact Cd.drop h0'' rfl
 ·rw [hr] at cR
  rw [if_pos rfl]
  rcases rdy_d hr with rfl | rfl
  ·rw [if_pos rfl]
   obtain ⟨g, cap, used, closed, buf⟩ := c
   have cS := send_c ⟨g, cap, used, closed, buf⟩ h l v hl hb
   dsimp only [aC] at cR hcc cS
   cases closed
   ·rw [if_neg (by simp)]
    unfold gA at cS ⊢
    refine Cd.enter' Tryz.func158 rfl Tryz.ntmps158 rfl ?_
    repeat' (first | ((with_reducible refine kAL ?_); (first | refine uK (cF) ?_ | refine uK (cR) ?_ | refine uK (cS) ?_ | refine uA ?_)) | refine uC ?_ | fail)
    all_goals first | (exfalso; omega) | (exact Fin.q Tryz.results158 (.cons (.agg rfl rfl ud87 rfl inf87 (us := [_, _, _, _, _]) rfl rfl) (.cons (.tmp rfl) (.cons (.agg rfl rfl ud42 rfl inf42 (us := [_, _, _, _]) rfl rfl) (.cons (.tmp rfl) .nil)))) [])
   ·rw [if_pos rfl]
    have h0 : Cd Tryz.prog 158 [.agg [i64 g, i64 cap, bo used, bo true, .ln (buf.map tI)], i64 h, .ln (l.map tWt), i64 1, i64 v] (.tup [.agg [i64 g, i64 cap, bo used, bo true, .sl 0 0 buf.length], .sl 1 0 l.length, .agg [i64 0, i64 0, i64 9, i64 0], .nl]) [.row 0 3 1 (buf.map tI), .row 0 90 4 (l.map tWt)] := by
     refine Cd.enter' Tryz.func158 rfl Tryz.ntmps158 rfl ?_
     repeat' (first | ((with_reducible refine kAL ?_); (first | refine uK (cF) ?_ | refine uK (cR) ?_ | refine uK (hcc) ?_ | refine uK (cW) ?_ | refine uA ?_)) | refine uC ?_ | fail)
     all_goals first | (exfalso; omega) | (exact Fin.q Tryz.results158 (.cons (.agg rfl rfl ud87 rfl inf87 (us := [_, _, _, _, _]) rfl rfl) (.cons (.tmp rfl) (.cons (.agg rfl rfl ud42 rfl inf42 (us := [_, _, _, _]) rfl rfl) (.cons (.tmp rfl) .nil)))) [3, 4])
    unfold gA
    have h0' := Cd.frz h0 0 rfl (by repeat' (first | exact FzL.nil | apply FzL.cons | exact FzR.nlt | exact FzR.all (by first | rfl | (simp <;> fail) | (simp; omega)) | exact FzR.sl (by first | exact Nat.le_refl _ | (simp <;> fail) | (simp; omega)) | apply FzR.aggL | exact FzR.same _)) rfl; have h0'' := Cd.frz h0' 1 rfl (by repeat' (first | exact FzL.nil | apply FzL.cons | exact FzR.nlt | exact FzR.all (by first | rfl | (simp <;> fail) | (simp; omega)) | exact FzR.sl (by first | exact Nat.le_refl _ | (simp <;> fail) | (simp; omega)) | apply FzR.aggL | exact FzR.same _)) rfl; exact Cd.drop h0'' rfl
  ·rw [if_neg (by decide)]
   have cV := fun hh => recv_c c h l hl hb hh
   cases hok : (fir l 1 h).ok
   ·rw [hok] at cF
    by_cases hp : 0 < (c.buf.length : Int)
    ·rw [decide_eq_true hp, Bool.true_or, if_pos rfl]
     have cV := cV (.inl (by omega))
     unfold gA at cV ⊢
     refine Cd.enter' Tryz.func158 rfl Tryz.ntmps158 rfl ?_
     repeat' (first | ((with_reducible refine kAL ?_); (first | refine uK (cF) ?_ | refine uK (cR) ?_ | refine uK (cV) ?_ | refine uA ?_)) | refine uC ?_ | fail)
     all_goals first | (exfalso; omega) | (exact Fin.q Tryz.results158 (.cons (.agg rfl rfl ud87 rfl inf87 (us := [_, _, _, _, _]) rfl rfl) (.cons (.tmp rfl) (.cons (.agg rfl rfl ud42 rfl inf42 (us := [_, _, _, _]) rfl rfl) (.cons (.tmp rfl) .nil)))) [])
    ·rw [decide_eq_false hp, Bool.false_or, if_neg (by simp)]
     have h0 : Cd Tryz.prog 158 [aC c, i64 h, .ln (l.map tWt), i64 2, i64 v] (.tup [.agg [i64 c.gen, i64 c.cap, bo c.used, bo c.closed, .sl 0 0 c.buf.length], .sl 1 0 l.length, .agg [i64 0, i64 0, i64 9, i64 0], .nl]) [.row 0 3 1 (c.buf.map tI), .row 0 90 4 (l.map tWt)] := by
      refine Cd.enter' Tryz.func158 rfl Tryz.ntmps158 rfl ?_
      repeat' (first | ((with_reducible refine kAL ?_); (first | refine uK (cF) ?_ | refine uK (cR) ?_ | refine uK (hcc) ?_ | refine uK (cW) ?_ | refine uA ?_)) | refine uC ?_ | fail)
      all_goals first | (exfalso; omega) | (exact Fin.q Tryz.results158 (.cons (.agg rfl rfl ud87 rfl inf87 (us := [_, _, _, _, _]) rfl rfl) (.cons (.tmp rfl) (.cons (.agg rfl rfl ud42 rfl inf42 (us := [_, _, _, _]) rfl rfl) (.cons (.tmp rfl) .nil)))) [3, 4])
     unfold gA
     have h0' := Cd.frz h0 0 rfl (by repeat' (first | exact FzL.nil | apply FzL.cons | exact FzR.nlt | exact FzR.all (by first | rfl | (simp <;> fail) | (simp; omega)) | exact FzR.sl (by first | exact Nat.le_refl _ | (simp <;> fail) | (simp; omega)) | apply FzR.aggL | exact FzR.same _)) rfl; have h0'' := Cd.frz h0' 1 rfl (by repeat' (first | exact FzL.nil | apply FzL.cons | exact FzR.nlt | exact FzR.all (by first | rfl | (simp <;> fail) | (simp; omega)) | exact FzR.sl (by first | exact Nat.le_refl _ | (simp <;> fail) | (simp; omega)) | apply FzR.aggL | exact FzR.same _)) rfl; exact Cd.drop h0'' rfl
   ·rw [hok] at cF
    rw [Bool.or_true, if_pos rfl]
    have cV := cV (.inr hok)
    unfold gA at cV ⊢
    refine Cd.enter' Tryz.func158 rfl Tryz.ntmps158 rfl ?_
    repeat' (first | ((with_reducible refine kAL ?_); (first | refine uK (cF) ?_ | refine uK (cR) ?_ | refine uK (cV) ?_ | refine uA ?_ | refine uS 61 (fun hb => ?_) (fun hb => ?_))) | refine uC ?_ | fail)
    all_goals first | (exfalso; omega) | (exact Fin.q Tryz.results158 (.cons (.agg rfl rfl ud87 rfl inf87 (us := [_, _, _, _, _]) rfl rfl) (.cons (.tmp rfl) (.cons (.agg rfl rfl ud42 rfl inf42 (us := [_, _, _, _]) rfl rfl) (.cons (.tmp rfl) .nil)))) [])
end
end Go.Proofs.YtbpgopomninedaaGreat
