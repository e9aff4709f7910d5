/- Joined: XTChans, XTChansB, XTChansC, XTShut, XTLaw11, XTOnR, XTLaw11c, XPl, XTHallP, XTAbb, XTIoR, XTHallC, XTHallI, XTStartR, XTRunP, XTMove, XTRunM. -/
import Derived.Test.YtphcebioiipdpaaKPe
import Derived.Test.YtphcebioiipdpaaKPc
import Derived.Test.YtphcebioiipdpaaKPf
import Derived.Test.YtphcebioiipdpaaKPa
namespace Go.Proofs.Ytphcebioiipdpaa
set_option linter.unusedVariables false
set_option linter.unusedSimpArgs false
set_option linter.unnecessarySimpa false
open Go.RowKit
set_option maxHeartbeats 32000000
attribute [local irreducible] AL AW RG Fin C Cd Cio thenQ blockQ retQ
set_option maxRecDepth 100000
attribute [local simp] putW_len cutW_len
structure DG where
  c : DChan
  l : List DWait
  r : Rst
  told : List DTold
  deriving DecidableEq
abbrev aC (c : DChan) : AV := .agg [i64 c.gen, i64 c.cap, bo c.used, bo c.closed, .ln (c.buf.map tI)]
def gA (g : DG) : AV := .tup [.agg [i64 g.c.gen, i64 g.c.cap, bo g.c.used, bo g.c.closed, .t (.lst (g.c.buf.map tI))], .t (.lst (g.l.map tWt)), .agg [i64 g.r.seq, i64 g.r.cas, i64 g.r.code, i64 g.r.value], .t (.lst (g.told.map tTd))]
def chB (c : DChan) (b : List Int) : DChan := ⟨c.gen, c.cap, c.used, c.closed, b⟩
theorem ccopy_c (c : DChan) (hb : c.buf.length ≤ 17592186044416) : Cd Try.prog 52 [aC c] (.agg [i64 c.gen, i64 c.cap, bo c.used, bo c.closed, .sl 0 0 c.buf.length]) [.row 0 3 1 (c.buf.map tI)] := by
  refine Cd.enter' Try.func52 rfl Try.ntmps52 rfl ?_
  repeat' (first | ((with_reducible refine kAL ?_); (first | refine A_box rfl rfl 66 _ rfl rfl (.push qL qN) ?_ | refine A_alloc rfl rfl 66 rfl inf66 (cs := [.t (.v (.int .i64 0)), .t (.v (.int .i64 0)), .t (.v (.bool false)), .t (.v (.bool false)), AV.nl]) rfl (.push qL qN) ?_ | refine A_field rfl rfl 66 _ 4 rfl ud66 rfl inf22 (by decide) 4 rfl rfl ?_ | refine A_load rfl rfl 22 _ rfl ud22 rfl rfl rfl rfl ?_ | (refine kL 2602 rfl ?_; refine A_cl rfl rfl Try.func81 rfl (clone_I c.buf hb) ?_) | refine A_store rfl rfl 22 _ _ rfl inf22 rfl rfl rfl rfl (Nat.le_of_ble_eq_true rfl) qN qN ?_ | refine A_load_agg rfl rfl 66 _ rfl ud66 rfl inf66 rfl rfl (us' := [_, _, _, _, _]) rfl rfl ?_ | refine A_store rfl rfl 66 _ _ rfl inf66 rfl rfl rfl rfl (Nat.le_of_ble_eq_true rfl) qN qN ?_ | refine AL.nil ?_)) | with_reducible refine AW.at_region _ ?_ | (with_reducible (first | refine wk0 ?_ | refine wk2 ?_ | refine wk9 ?_ | refine wkb ?_)))
  all_goals (exact Fin.q Try.results52 (.cons (.agg rfl rfl ud66 rfl inf66 (us := [_, _, _, _, _]) rfl rfl) .nil) [2])
theorem ended_c (l : List DWait) (t : Nat) (wh code v : Int) (w : DWait) (hw : l[t]? = some w) : Cd Try.prog 115 [.ln (l.map tWt), i64 t, i64 wh, i64 code, i64 v] (.agg [i64 t, i64 w.seq, i64 wh, i64 code, i64 v]) [] := by
  have h1 : (l.map tWt).length = l.length := List.length_map _
  have h2 := get_lt hw
  refine Cd.enter' Try.func115 rfl Try.ntmps115 rfl ?_
  repeat' (first | ((with_reducible refine kAL ?_); (first | refine A_alloc rfl rfl 124 rfl inf124 (cs := [.t (.v (.int .i64 0)), .t (.v (.int .i64 0)), .t (.v (.int .i64 0)), .t (.v (.int .i64 0)), .t (.v (.int .i64 0))]) rfl (.push qL qN) ?_ | (refine kL 0 rfl ?_; (first | refine A_mt rfl rfl rfl rfl ?_ | refine A_move rfl rfl _ (.inl rfl) (y := .ln _) rfl ?_)) | (refine kL 838 rfl ?_; refine A_idx rfl rfl 26 _ _ rfl ud26 inf43 (by decide) (by exact .inl rfl) rfl (by omega) _ (by with_reducible exact Int.toNat_natCast _) (by exact map_get (by assumption)) rfl (cs' := [_, _, _, _]) rfl ?_) | refine A_field rfl rfl 43 _ 2 rfl ud43 rfl inf3 (by decide) 2 rfl rfl ?_ | refine A_load_lp rfl rfl 3 _ rfl ud3 rfl rfl rfl ?_ | (refine kL 1614 rfl ?_; refine A_build rfl rfl 50 _ rfl ud50 inf50 [(0, 1), (1, 1), (2, 1), (3, 1)] (by kernel_rfl) (zs := [.t (.v (.int .i64 0)), .t (.v (.int .i64 0)), .t (.v (.int .i64 0)), .t (.v (.int .i64 0))]) rfl (.cons rfl (.cons rfl (.cons rfl (.cons rfl .nil)))) (cs := [_, _, _, _]) rfl ?_) | (refine kL 3982 rfl ?_; refine A_build rfl rfl 124 _ rfl ud124 inf124 [(0, 1), (1, 4)] (by kernel_rfl) (zs := [.t (.v (.int .i64 0)), .t (.v (.int .i64 0)), .t (.v (.int .i64 0)), .t (.v (.int .i64 0)), .t (.v (.int .i64 0))]) rfl (.cons rfl (.cons rfl .nil)) (cs := [_, _, _, _, _]) rfl ?_) | refine A_store rfl rfl 124 _ _ rfl inf124 rfl rfl rfl rfl (Nat.le_of_ble_eq_true rfl) qN qN ?_ | refine AL.nil ?_)) | with_reducible refine AW.at_region _ ?_ | (with_reducible (first | refine wk0 ?_ | refine wk2 ?_ | refine wk9 ?_ | refine wkb ?_)))
  all_goals first | (exfalso; omega) | (exact Fin.q Try.results115 (.cons (.agg rfl rfl ud124 rfl inf124 (us := [_, _, _, _, _]) rfl rfl) .nil) [])
def rdyC (c : DChan) (h : Int) (l : List DWait) (d : Int) : Bool :=
  c.used && (if d = 1 then c.closed || (fir l 2 h).ok || decide ((c.buf.length : Int) < c.cap) else if d = 2 then c.closed || (fir l 1 h).ok || decide ((0 : Int) < c.buf.length) else false)
set_option maxHeartbeats 4000000 in
theorem ready_c (c : DChan) (h : Int) (l : List DWait) (d : Int) (hl : okW l) : Cd Try.prog 93 [aC c, i64 h, .ln (l.map tWt), i64 d] (bo (rdyC c h l d)) [] := by
  obtain ⟨g, cap, used, closed, buf⟩ := c
  have h1 : (buf.map tI).length = buf.length := List.length_map _
  unfold rdyC
  dsimp only [aC]
  cases used
  · refine Cd.enter' Try.func93 rfl Try.ntmps93 rfl ?_
    repeat' (first | ((with_reducible refine kAL ?_); (first | refine A_box rfl rfl 66 _ rfl rfl (.push qL qN) ?_ | refine A_as rfl rfl rfl rfl ?_ | refine A_field rfl rfl 66 _ 2 rfl ud66 rfl inf4 (by decide) 2 rfl rfl ?_ | refine A_load rfl rfl 4 _ rfl ud4 rfl rfl rfl rfl ?_ | refine A_not rfl rfl _ _ rfl rfl ?_ | refine AL.nil ?_)) | with_reducible refine AW.at_region _ ?_ | (with_reducible (first | refine wk0 ?_ | refine wk2 ?_ | refine wk3 ?_ | refine wk9 ?_ | refine wkb ?_)) | refine kct rfl ?_)
    all_goals first | (exfalso; omega) | (exact Fin.q Try.results93 (.cons (.tmp rfl) .nil) [])
  · by_cases d1 : d = 1
    · subst d1
      have cF := first_c l 2 h hl
      generalize (fir l 2 h) = F at cF
      obtain ⟨th, wh, ok⟩ := F
      dsimp only at cF ⊢
      by_cases hcc : (buf.length : Int) < cap
      all_goals
        cases closed <;> cases ok
        all_goals
          refine Cd.enter' Try.func93 rfl Try.ntmps93 rfl ?_
          repeat' (first | ((with_reducible refine kAL ?_); (first | refine A_box rfl rfl 66 _ rfl rfl (.push qL qN) ?_ | refine A_as rfl rfl rfl rfl ?_ | (refine kL 2116 rfl ?_; (first | refine A_field rfl rfl 66 _ 2 rfl ud66 rfl inf4 (by decide) 2 rfl rfl ?_ | refine A_field rfl rfl 66 _ 3 rfl ud66 rfl inf4 (by decide) 3 rfl rfl ?_ | refine A_field rfl rfl 66 _ 4 rfl ud66 rfl inf22 (by decide) 4 rfl rfl ?_ | refine A_field rfl rfl 66 _ 1 rfl ud66 rfl inf3 (by decide) 1 rfl rfl ?_)) | refine A_load rfl rfl 4 _ rfl ud4 rfl rfl rfl rfl ?_ | refine A_not rfl rfl _ _ rfl rfl ?_ | (refine kL 0 rfl ?_; (first | refine A_mt rfl rfl rfl rfl ?_ | refine A_move rfl rfl _ (.inl rfl) (y := .ln _) rfl ?_ | refine A_move rfl rfl _ (.inl rfl) (y := .tup _) rfl ?_)) | (refine kL 105 rfl ?_; (first | refine A_cmp (d := 20) rfl rfl (c := true) .eql 3 3 _ _ rfl rfl rfl (by exact congrArg some (decide_eq_true (by (try (dsimp only; fail_if_success done)); omega))) ?_ | refine A_cmp (d := 39) rfl rfl (c := true) .lss 3 3 _ _ rfl rfl rfl (by exact congrArg some (decide_eq_true (by (try (dsimp only; fail_if_success done)); omega))) ?_ | refine A_cmp (d := 39) rfl rfl (c := false) .lss 3 3 _ _ rfl rfl rfl (by exact congrArg some (decide_eq_false (by (try (dsimp only; fail_if_success done)); omega))) ?_)) | (refine kL 3562 rfl ?_; refine A_cl rfl rfl Try.func111 rfl (cF) ?_) | (refine kL 18 rfl ?_; (first | refine A_extract rfl rfl _ 0 rfl rfl rfl ?_ | refine A_extract rfl rfl _ 1 rfl rfl rfl ?_ | refine A_extract rfl rfl _ 2 rfl rfl rfl ?_)) | refine A_pick rfl rfl _ _ _ rfl rfl rfl rfl rfl ?_ | refine A_load rfl rfl 22 _ rfl ud22 rfl rfl rfl rfl ?_ | refine A_len rfl rfl 22 _ rfl ud22 rfl ?_ | refine A_load rfl rfl 3 _ rfl ud3 rfl rfl rfl rfl ?_ | refine AL.nil ?_ | refine AL.skip rfl rfl ?_)) | with_reducible refine AW.at_region _ ?_ | (with_reducible (first | refine wk0 ?_ | refine wk1 ?_ | refine wk2 ?_ | refine wk3 ?_ | refine wk6 ?_ | refine wk9 ?_ | refine wkb ?_ | refine wkd ?_)) | refine kct rfl ?_ | refine kcf rfl ?_)
          all_goals first | (exfalso; omega) | ((first | exact Fin.q Try.results93 (.cons (.tmp rfl) .nil) [] | refine Fin.q Try.results93 (.cons (.tmp rfl) .nil) [] (hr := (.t ?_))))
          all_goals first | (simp [hcc]; done) | (rw [decide_eq_true hcc]; simp; done) | (rw [decide_eq_false hcc]; simp; done) | (simp only [decide_eq_true hcc]; simp; done) | (simp only [decide_eq_false hcc]; simp; done) | skip
    · by_cases d2 : d = 2
      · subst d2
        have cF := first_c l 1 h hl
        generalize (fir l 1 h) = F at cF
        obtain ⟨th, wh, ok⟩ := F
        dsimp only at cF ⊢
        by_cases hcc : 0 < (buf.length : Int)
        all_goals
          cases closed <;> cases ok
          all_goals
            refine Cd.enter' Try.func93 rfl Try.ntmps93 rfl ?_
            repeat' (first | ((with_reducible refine kAL ?_); (first | refine A_box rfl rfl 66 _ rfl rfl (.push qL qN) ?_ | refine A_as rfl rfl rfl rfl ?_ | (refine kL 2116 rfl ?_; (first | refine A_field rfl rfl 66 _ 2 rfl ud66 rfl inf4 (by decide) 2 rfl rfl ?_ | refine A_field rfl rfl 66 _ 3 rfl ud66 rfl inf4 (by decide) 3 rfl rfl ?_ | refine A_field rfl rfl 66 _ 4 rfl ud66 rfl inf22 (by decide) 4 rfl rfl ?_)) | refine A_load rfl rfl 4 _ rfl ud4 rfl rfl rfl rfl ?_ | refine A_not rfl rfl _ _ rfl rfl ?_ | (refine kL 0 rfl ?_; (first | refine A_mt rfl rfl rfl rfl ?_ | refine A_move rfl rfl _ (.inl rfl) (y := .ln _) rfl ?_ | refine A_move rfl rfl _ (.inl rfl) (y := .tup _) rfl ?_)) | (refine kL 105 rfl ?_; (first | refine A_cmp (d := 20) rfl rfl (c := false) .eql 3 3 _ _ rfl rfl rfl (by exact congrArg some (decide_eq_false (by (try (dsimp only; fail_if_success done)); omega))) ?_ | refine A_cmp (d := 42) rfl rfl (c := true) .eql 3 3 _ _ rfl rfl rfl (by exact congrArg some (decide_eq_true (by (try (dsimp only; fail_if_success done)); omega))) ?_ | refine A_cmp (d := 59) rfl rfl (c := true) .gtr 3 3 _ _ rfl rfl rfl (by exact congrArg some (decide_eq_true (by (try (dsimp only; fail_if_success done)); omega))) ?_ | refine A_cmp (d := 59) rfl rfl (c := false) .gtr 3 3 _ _ rfl rfl rfl (by exact congrArg some (decide_eq_false (by (try (dsimp only; fail_if_success done)); omega))) ?_)) | (refine kL 3562 rfl ?_; refine A_cl rfl rfl Try.func111 rfl (cF) ?_) | (refine kL 18 rfl ?_; (first | refine A_extract rfl rfl _ 0 rfl rfl rfl ?_ | refine A_extract rfl rfl _ 1 rfl rfl rfl ?_ | refine A_extract rfl rfl _ 2 rfl rfl rfl ?_)) | refine A_pick rfl rfl _ _ _ rfl rfl rfl rfl rfl ?_ | refine A_load rfl rfl 22 _ rfl ud22 rfl rfl rfl rfl ?_ | refine A_len rfl rfl 22 _ rfl ud22 rfl ?_ | refine AL.nil ?_ | refine AL.skip rfl rfl ?_)) | with_reducible refine AW.at_region _ ?_ | (with_reducible (first | refine wk0 ?_ | refine wk1 ?_ | refine wk2 ?_ | refine wk3 ?_ | refine wk6 ?_ | refine wk9 ?_ | refine wkb ?_ | refine wkd ?_)) | refine kct rfl ?_ | refine kcf rfl ?_)
            all_goals first | (exfalso; omega) | ((first | exact Fin.q Try.results93 (.cons (.tmp rfl) .nil) [] | refine Fin.q Try.results93 (.cons (.tmp rfl) .nil) [] (hr := (.t ?_))))
            all_goals first | (simp [hcc]; done) | (rw [decide_eq_true hcc]; simp; done) | (rw [decide_eq_false hcc]; simp; done) | (simp only [decide_eq_true hcc]; simp; done) | (simp only [decide_eq_false hcc]; simp; done) | skip
      · refine Cd.enter' Try.func93 rfl Try.ntmps93 rfl ?_
        repeat' (first | ((with_reducible refine kAL ?_); (first | refine A_box rfl rfl 66 _ rfl rfl (.push qL qN) ?_ | refine A_as rfl rfl rfl rfl ?_ | refine A_field rfl rfl 66 _ 2 rfl ud66 rfl inf4 (by decide) 2 rfl rfl ?_ | refine A_load rfl rfl 4 _ rfl ud4 rfl rfl rfl rfl ?_ | refine A_not rfl rfl _ _ rfl rfl ?_ | refine A_mt rfl rfl rfl rfl ?_ | (refine kL 105 rfl ?_; (first | refine A_cmp (d := 20) rfl rfl (c := false) .eql 3 3 _ _ rfl rfl rfl (by exact congrArg some (decide_eq_false (by (try (dsimp only; fail_if_success done)); omega))) ?_ | refine A_cmp (d := 42) rfl rfl (c := false) .eql 3 3 _ _ rfl rfl rfl (by exact congrArg some (decide_eq_false (by (try (dsimp only; fail_if_success done)); omega))) ?_)) | refine AL.nil ?_)) | with_reducible refine AW.at_region _ ?_ | (with_reducible (first | refine wk0 ?_ | refine wk1 ?_ | refine wk2 ?_ | refine wk5 ?_ | refine wk9 ?_ | refine wkb ?_ | refine wkd ?_)) | refine kcf rfl ?_)
        all_goals first | (exfalso; omega) | (refine Fin.q Try.results93 (.cons (.tmp rfl) .nil) [] (hr := (.t ?_)))
        all_goals simp [d1, d2]
def thW (l : List DWait) (f : FS) : DWait := l.getD f.th.toNat default
def thV (l : List DWait) (f : FS) : Int := ((thW l f).cases.getD f.wh.toNat default).value
def sendG (c : DChan) (h : Int) (l : List DWait) (v : Int) : DG :=
  if (fir l 2 h).ok then ⟨c, cutW l (fir l 2 h).th, ⟨0, 0, 0, 0⟩, [⟨(fir l 2 h).th, ⟨(thW l (fir l 2 h)).seq, (fir l 2 h).wh, 0, v⟩⟩]⟩ else ⟨chB c (c.buf ++ [v]), l, ⟨0, 0, 0, 0⟩, []⟩
def recvG (c : DChan) (h : Int) (l : List DWait) : DG :=
  if (fir l 1 h).ok then ⟨chB c ((c.buf ++ [thV l (fir l 1 h)]).drop 1), cutW l (fir l 1 h).th, ⟨0, 0, 0, (c.buf ++ [thV l (fir l 1 h)]).headD 0⟩, [⟨(fir l 1 h).th, ⟨(thW l (fir l 1 h)).seq, (fir l 1 h).wh, 0, 0⟩⟩]⟩
  else ⟨chB c (c.buf.drop 1), l, ⟨0, 0, 0, c.buf.headD 0⟩, []⟩
set_option maxHeartbeats 8000000 in
theorem send_c (c : DChan) (h : Int) (l : List DWait) (v : Int) (hl : okW l) (hb : c.buf.length ≤ 17592186043904) : Cd Try.prog 121 [aC c, i64 h, .ln (l.map tWt), i64 v] (gA (sendG c h l v)) [] := by
  have hcc := ccopy_c c (by omega)
  have cF := first_c l 2 h hl
  unfold sendG
  cases hk : (fir l 2 h).ok
  · rw [hk] at cF
    obtain ⟨g, cap, used, closed, buf⟩ := c
    have h1 : (buf.map tI).length = buf.length := List.length_map _
    dsimp only at hb
    dsimp only [aC] at hcc
    have h0 : Cd Try.prog 121 [.agg [i64 g, i64 cap, bo used, bo closed, .ln (buf.map tI)], i64 h, .ln (l.map tWt), i64 v] (.tup [.agg [i64 g, i64 cap, bo used, bo closed, .sl 0 0 (buf.length + 1)], .sl 1 0 l.length, .agg [i64 0, i64 0, i64 0, i64 0], .nl]) [.row 0 3 1 ((buf ++ [v]).map tI), .row 0 43 4 (l.map tWt)] := by
      refine Cd.enter' Try.func121 rfl Try.ntmps121 rfl ?_
      repeat' (first | ((with_reducible refine kAL ?_); (first | refine A_box rfl rfl 66 _ rfl rfl (.push qL qN) ?_ | refine A_alloc rfl rfl 66 rfl inf66 (cs := [.t (.v (.int .i64 0)), .t (.v (.int .i64 0)), .t (.v (.bool false)), .t (.v (.bool false)), AV.nl]) rfl (.push qL qN) ?_ | (refine kL 1 rfl ?_; (first | refine A_as rfl rfl rfl rfl ?_ | refine A_move rfl rfl _ (.inr rfl) (y := .nl) rfl ?_)) | refine A_alloc rfl rfl 50 rfl inf50 (cs := [.t (.v (.int .i64 0)), .t (.v (.int .i64 0)), .t (.v (.int .i64 0)), .t (.v (.int .i64 0))]) rfl (.push qL qN) ?_ | refine A_load_agg rfl rfl 66 _ rfl ud66 rfl inf66 rfl rfl (us' := [_, _, _, _, _]) rfl rfl ?_ | (refine kL 1674 rfl ?_; refine A_cl rfl rfl Try.func52 rfl (hcc) ?_) | refine A_store rfl rfl 66 _ _ rfl inf66 rfl rfl rfl rfl (Nat.le_of_ble_eq_true rfl) qN qN ?_ | (refine kL 0 rfl ?_; (first | refine A_mt rfl rfl rfl rfl ?_ | refine A_move rfl rfl _ (.inl rfl) (y := .ln _) rfl ?_ | refine A_move rfl rfl _ (.inl rfl) (y := .tup _) rfl ?_)) | (refine kL 3562 rfl ?_; refine A_cl rfl rfl Try.func111 rfl (cF) ?_) | (refine kL 18 rfl ?_; (first | refine A_extract rfl rfl _ 0 rfl rfl rfl ?_ | refine A_extract rfl rfl _ 1 rfl rfl rfl ?_ | refine A_extract rfl rfl _ 2 rfl rfl rfl ?_)) | refine A_field rfl rfl 66 _ 4 rfl ud66 rfl inf22 (by decide) 4 rfl rfl ?_ | refine A_load rfl rfl 22 _ rfl ud22 rfl rfl rfl rfl ?_ | (refine kL 719 rfl ?_; refine A_lit rfl rfl 22 1 _ rfl ud22 inf3 (.cons rfl .nil) (els := [[_]]) rfl (by exact (rfl : _ = List.map tI [_])) rfl (Nat.ne_of_beq_eq_false rfl) (Nat.le_of_ble_eq_true rfl) (Nat.le_of_ble_eq_true rfl) (.push qL qN) ?_) | (refine kL 12 rfl ?_; refine A_append rfl rfl _ _ 22 rfl ud22 inf3 rfl rfl rfl (by first | (simp <;> fail) | fail) (by exact .all rfl (by rfl)) qB qB (by exact app_one (f := tI) (x := _) (by rfl)) qN qS ?_) | refine A_store rfl rfl 22 _ _ rfl inf22 rfl rfl rfl rfl (Nat.le_of_ble_eq_true rfl) qN qN ?_ | refine AL.nil ?_)) | ((with_reducible refine kRG ?_); (first | refine R_load_agg rfl rfl 66 _ rfl ud66 rfl inf66 rfl rfl (us' := [_, _, _, _, _]) rfl rfl ?_ | refine R_move rfl rfl _ (.inl rfl) (y := .ln _) rfl ?_ | (refine kR 1614 rfl ?_; refine R_build rfl rfl 50 _ rfl ud50 inf50 [(0, 1), (1, 1), (2, 1), (3, 1)] (by kernel_rfl) (zs := [.t (.v (.int .i64 0)), .t (.v (.int .i64 0)), .t (.v (.int .i64 0)), .t (.v (.int .i64 0))]) rfl .nil (cs := [_, _, _, _]) rfl ?_) | refine R_store rfl rfl 66 _ _ rfl inf66 rfl rfl rfl rfl (Nat.le_of_ble_eq_true rfl) qN qN ?_ | (refine kR 1 rfl ?_; (first | refine R_move rfl rfl _ (.inr rfl) (y := .sl _ _ _) rfl ?_ | refine R_move rfl rfl _ (.inr rfl) (y := .nl) rfl ?_)) | refine R_store rfl rfl 50 _ _ rfl inf50 rfl rfl rfl rfl (Nat.le_of_ble_eq_true rfl) qN qN ?_ | (refine kR 1610 rfl ?_; (refine R_cl rfl rfl Try.func50 rfl (wcopy_c l hl) ?_; refine ⟨6, _, _, _, rfl, qU, qU, qZ, ?_⟩)) | refine RG.nil ⟨by kernel_rfl, ?_⟩)) | (with_reducible (first | refine wk0 ?_ | refine wk2 ?_ | refine wk9 ?_ | refine wkb ?_ | refine wkd ?_)) | refine kcf rfl ?_ | with_reducible refine AW.at_region _ ?_ | refine AW.at_draw 8 mixed 1 [[], [], [1], [], [0, 1, 2], [0, 1, 2, 4], [0, 1, 2, 3, 4, 5], [0, 1, 2, 3, 4, 5, 6]] qR ?_)
      all_goals first | (exfalso; omega) | (exact Fin.q Try.results121 (.cons (.agg rfl rfl ud66 rfl inf66 (us := [_, _, _, _, _]) rfl rfl) (.cons (.tmp rfl) (.cons (.agg rfl rfl ud50 rfl inf50 (us := [_, _, _, _]) rfl rfl) (.cons (.tmp rfl) .nil)))) [3, 6])
    simp only [Bool.false_eq_true, if_false, gA, chB]
    have h0' := Cd.frz h0 0 rfl (by repeat' (first | exact FzL.nil | apply FzL.cons | exact FzR.nlt | exact FzR.all (by first | rfl | (simp <;> fail) | (simp; omega)) | exact FzR.sl (by first | exact Nat.le_refl _ | (simp <;> fail) | (simp; omega)) | apply FzR.aggL | exact FzR.same _)) rfl; have h0'' := Cd.frz h0' 1 rfl (by repeat' (first | exact FzL.nil | apply FzL.cons | exact FzR.nlt | exact FzR.all (by first | rfl | (simp <;> fail) | (simp; omega)) | exact FzR.sl (by first | exact Nat.le_refl _ | (simp <;> fail) | (simp; omega)) | apply FzR.aggL | exact FzR.same _)) rfl; exact Cd.drop h0'' rfl
  · obtain ⟨t, m, w, k, e1, e2, hw, hon, hc, e3, e4⟩ := fir_ok hk
    have hT : thW l (fir l 2 h) = w := by unfold thW; rw [e1, Int.toNat_natCast, getD_of hw]
    have cE := ended_c l t m 0 v w hw
    have cX := wcut_c l t hl
    rw [cutOk_yes hw hon] at cX
    rw [hk, e1, e2] at cF
    rw [if_pos rfl, hT, e1, e2]
    obtain ⟨g, cap, used, closed, buf⟩ := c
    dsimp only at hb
    dsimp only [aC] at hcc
    have h0 : Cd Try.prog 121 [.agg [i64 g, i64 cap, bo used, bo closed, .ln (buf.map tI)], i64 h, .ln (l.map tWt), i64 v] (.tup [.agg [i64 g, i64 cap, bo used, bo closed, .sl 0 0 buf.length], .sl 1 0 l.length, .agg [i64 0, i64 0, i64 0, i64 0], .sl 2 0 1]) [.row 0 3 1 (buf.map tI), .row 0 43 4 ((cutW l t).map tWt), .row 0 124 5 [tTd ⟨t, ⟨w.seq, m, 0, v⟩⟩]] := by
      refine Cd.enter' Try.func121 rfl Try.ntmps121 rfl ?_
      repeat' (first | ((with_reducible refine kAL ?_); (first | refine A_box rfl rfl 66 _ rfl rfl (.push qL qN) ?_ | refine A_alloc rfl rfl 66 rfl inf66 (cs := [.t (.v (.int .i64 0)), .t (.v (.int .i64 0)), .t (.v (.bool false)), .t (.v (.bool false)), AV.nl]) rfl (.push qL qN) ?_ | (refine kL 1 rfl ?_; (first | refine A_as rfl rfl rfl rfl ?_ | refine A_move rfl rfl _ (.inr rfl) (y := .sl _ _ _) rfl ?_ | refine A_move rfl rfl _ (.inr rfl) (y := .nl) rfl ?_)) | refine A_alloc rfl rfl 50 rfl inf50 (cs := [.t (.v (.int .i64 0)), .t (.v (.int .i64 0)), .t (.v (.int .i64 0)), .t (.v (.int .i64 0))]) rfl (.push qL qN) ?_ | refine A_load_agg rfl rfl 66 _ rfl ud66 rfl inf66 rfl rfl (us' := [_, _, _, _, _]) rfl rfl ?_ | (refine kL 1674 rfl ?_; refine A_cl rfl rfl Try.func52 rfl (hcc) ?_) | refine A_store rfl rfl 66 _ _ rfl inf66 rfl rfl rfl rfl (Nat.le_of_ble_eq_true rfl) qN qN ?_ | (refine kL 0 rfl ?_; (first | refine A_mt rfl rfl rfl rfl ?_ | refine A_move rfl rfl _ (.inl rfl) (y := .ln _) rfl ?_ | refine A_move rfl rfl _ (.inl rfl) (y := .tup _) rfl ?_)) | (refine kL 3562 rfl ?_; refine A_cl rfl rfl Try.func111 rfl (cF) ?_) | (refine kL 18 rfl ?_; (first | refine A_extract rfl rfl _ 0 rfl rfl rfl ?_ | refine A_extract rfl rfl _ 1 rfl rfl rfl ?_ | refine A_extract rfl rfl _ 2 rfl rfl rfl ?_)) | (refine kL 3690 rfl ?_; refine A_cl rfl rfl Try.func115 rfl (cE) ?_) | refine A_alloc rfl rfl 124 rfl inf124 (cs := [.t (.v (.int .i64 0)), .t (.v (.int .i64 0)), .t (.v (.int .i64 0)), .t (.v (.int .i64 0)), .t (.v (.int .i64 0))]) rfl (.push qL qN) ?_ | refine A_store rfl rfl 124 _ _ rfl inf124 rfl rfl rfl rfl (Nat.le_of_ble_eq_true rfl) qN qN ?_ | (refine kL 3146 rfl ?_; refine A_cl rfl rfl Try.func98 rfl (cX) ?_) | refine AL.nil ?_)) | ((with_reducible refine kRG ?_); (first | refine R_load_agg rfl rfl 66 _ rfl ud66 rfl inf66 rfl rfl (us' := [_, _, _, _, _]) rfl rfl ?_ | refine R_move rfl rfl _ (.inl rfl) (y := .sl _ _ _) rfl ?_ | (refine kR 1614 rfl ?_; refine R_build rfl rfl 50 _ rfl ud50 inf50 [(0, 1), (1, 1), (2, 1), (3, 1)] (by kernel_rfl) (zs := [.t (.v (.int .i64 0)), .t (.v (.int .i64 0)), .t (.v (.int .i64 0)), .t (.v (.int .i64 0))]) rfl .nil (cs := [_, _, _, _]) rfl ?_) | refine R_load_agg rfl rfl 124 _ rfl ud124 rfl inf124 rfl rfl (us' := [_, _, _, _, _]) rfl rfl ?_ | (refine kR 3055 rfl ?_; refine R_lit (N := 7) rfl rfl 95 1 _ rfl ud95 inf124 (.cons rfl .nil) (els := [[_, _, _, _, _]]) rfl (by exact (rfl : _ = List.map tTd [⟨t, ⟨w.seq, m, 0, v⟩⟩])) rfl (Nat.ne_of_beq_eq_false rfl) (Nat.le_of_ble_eq_true rfl) (Nat.le_of_ble_eq_true rfl) rfl qN ?_) | refine R_store rfl rfl 66 _ _ rfl inf66 rfl rfl rfl rfl (Nat.le_of_ble_eq_true rfl) qN qN ?_ | refine R_move rfl rfl _ (.inr rfl) (y := .sl _ _ _) rfl ?_ | refine R_store rfl rfl 50 _ _ rfl inf50 rfl rfl rfl rfl (Nat.le_of_ble_eq_true rfl) qN qN ?_ | refine RG.nil ⟨by kernel_rfl, ?_⟩)) | (with_reducible (first | refine wk0 ?_ | refine wk2 ?_ | refine wk3 ?_ | refine wk9 ?_ | refine wkb ?_)) | refine kct rfl ?_ | with_reducible refine AW.at_region _ ?_ | refine AW.at_draw 6 mixed 1 [[], [], [], [], [3], [0], [0, 1, 5], [0, 1, 2, 5, 6], [0, 1, 2, 3, 4, 5, 6, 7]] qR ?_)
      all_goals first | (exfalso; omega) | (exact Fin.q Try.results121 (.cons (.agg rfl rfl ud66 rfl inf66 (us := [_, _, _, _, _]) rfl rfl) (.cons (.tmp rfl) (.cons (.agg rfl rfl ud50 rfl inf50 (us := [_, _, _, _]) rfl rfl) (.cons (.tmp rfl) .nil)))) [3, 6, 7])
    have h0' := Cd.frz h0 0 rfl (by repeat' (first | exact FzL.nil | apply FzL.cons | exact FzR.nlt | exact FzR.all (by first | rfl | (simp <;> fail) | (simp; omega)) | exact FzR.sl (by first | exact Nat.le_refl _ | (simp <;> fail) | (simp; omega)) | apply FzR.aggL | exact FzR.same _)) rfl; have h0'' := Cd.frz h0' 1 rfl (by repeat' (first | exact FzL.nil | apply FzL.cons | exact FzR.nlt | exact FzR.all (by first | rfl | (simp <;> fail) | (simp; omega)) | exact FzR.sl (by first | exact Nat.le_refl _ | (simp <;> fail) | (simp; omega)) | apply FzR.aggL | exact FzR.same _)) rfl; have h0''' := Cd.frz h0'' 2 rfl (by repeat' (first | exact FzL.nil | apply FzL.cons | exact FzR.nlt | exact FzR.all (by first | rfl | (simp <;> fail) | (simp; omega)) | exact FzR.sl (by first | exact Nat.le_refl _ | (simp <;> fail) | (simp; omega)) | apply FzR.aggL | exact FzR.same _)) rfl; exact Cd.drop h0''' rfl
set_option maxHeartbeats 8000000 in
theorem recv_c (c : DChan) (h : Int) (l : List DWait) (hl : okW l) (hb : c.buf.length ≤ 17592186043904) (hr : 0 < c.buf.length ∨ (fir l 1 h).ok = true) : Cd Try.prog 122 [aC c, i64 h, .ln (l.map tWt)] (gA (recvG c h l)) [] := by
  have hcc := ccopy_c c (by omega)
  have cF := first_c l 1 h hl
  unfold recvG
  cases hk : (fir l 1 h).ok
  · rw [hk] at cF hr
    obtain ⟨g, cap, used, closed, buf⟩ := c
    have h1 : (buf.map tI).length = buf.length := List.length_map _
    dsimp only at hb hr
    dsimp only [aC] at hcc
    obtain ⟨x0, T, hB⟩ : ∃ x0 T, buf = x0 :: T := List.exists_cons_of_length_pos (by rcases hr with hr | hr; exact hr; cases hr)
    have hx0 : buf[0]? = some x0 := by rw [hB]; rfl
    have hd : buf.drop 1 = T := by rw [hB]; rfl
    have hTl : T.length + 1 = buf.length := by rw [hB]; rfl
    have cK := clone_I (buf.drop 1) (by simp; omega)
    have h3 : (buf.drop 1).length = T.length := by rw [hd]
    rw [h3] at cK
    have h0 : Cd Try.prog 122 [.agg [i64 g, i64 cap, bo used, bo closed, .ln (buf.map tI)], i64 h, .ln (l.map tWt)] (.tup [.agg [i64 g, i64 cap, bo used, bo closed, .sl 0 0 T.length], .sl 1 0 l.length, .agg [i64 0, i64 0, i64 0, i64 x0], .nl]) [.row 0 3 1 ((buf.drop 1).map tI), .row 0 43 4 (l.map tWt)] := by
      refine Cd.enter' Try.func122 rfl Try.ntmps122 rfl ?_
      repeat' (first | ((with_reducible refine kAL ?_); (first | refine A_box rfl rfl 66 _ rfl rfl (.push qL qN) ?_ | refine A_alloc rfl rfl 66 rfl inf66 (cs := [.t (.v (.int .i64 0)), .t (.v (.int .i64 0)), .t (.v (.bool false)), .t (.v (.bool false)), AV.nl]) rfl (.push qL qN) ?_ | (refine kL 1 rfl ?_; (first | refine A_as rfl rfl rfl rfl ?_ | refine A_move rfl rfl _ (.inr rfl) (y := .nl) rfl ?_)) | refine A_alloc rfl rfl 50 rfl inf50 (cs := [.t (.v (.int .i64 0)), .t (.v (.int .i64 0)), .t (.v (.int .i64 0)), .t (.v (.int .i64 0))]) rfl (.push qL qN) ?_ | refine A_load_agg rfl rfl 66 _ rfl ud66 rfl inf66 rfl rfl (us' := [_, _, _, _, _]) rfl rfl ?_ | (refine kL 1674 rfl ?_; refine A_cl rfl rfl Try.func52 rfl (hcc) ?_) | refine A_store rfl rfl 66 _ _ rfl inf66 rfl rfl rfl rfl (Nat.le_of_ble_eq_true rfl) qN qN ?_ | (refine kL 0 rfl ?_; (first | refine A_mt rfl rfl rfl rfl ?_ | refine A_move rfl rfl _ (.inl rfl) (y := .ln _) rfl ?_ | refine A_move rfl rfl _ (.inl rfl) (y := .tup _) rfl ?_)) | (refine kL 3562 rfl ?_; refine A_cl rfl rfl Try.func111 rfl (cF) ?_) | (refine kL 18 rfl ?_; (first | refine A_extract rfl rfl _ 0 rfl rfl rfl ?_ | refine A_extract rfl rfl _ 1 rfl rfl rfl ?_ | refine A_extract rfl rfl _ 2 rfl rfl rfl ?_)) | refine A_not rfl rfl _ _ rfl rfl ?_ | refine A_field rfl rfl 66 _ 4 rfl ud66 rfl inf22 (by decide) 4 rfl rfl ?_ | refine A_load rfl rfl 22 _ rfl ud22 rfl rfl rfl rfl ?_ | (refine kL 710 rfl ?_; refine A_idx_sl rfl rfl 22 _ _ rfl ud22 inf3 rfl rfl (by first | (simp <;> fail) | fail) rfl (by omega) _ (rfl : Int.toNat 0 = 0) (by omega) ?_) | refine A_load_rp rfl rfl 3 _ rfl ud3 rfl rfl rfl (by exact map_get (by assumption)) rfl ?_ | (refine kL 717 rfl ?_; refine A_cut_sub rfl rfl 22 _ _ _ rfl ud22 inf3 rfl rfl (.yes rfl (by omega) (rfl : Int.toNat 1 = 1)) (.no _) (by omega) (by omega) (by (try simp only [Nat.sub_zero]); rfl) ?_) | (refine kL 2602 rfl ?_; refine A_cl rfl rfl Try.func81 rfl (cK) ?_) | refine A_store rfl rfl 22 _ _ rfl inf22 rfl rfl rfl rfl (Nat.le_of_ble_eq_true rfl) qN qN ?_ | refine AL.nil ?_)) | ((with_reducible refine kRG ?_); (first | refine R_load_agg rfl rfl 66 _ rfl ud66 rfl inf66 rfl rfl (us' := [_, _, _, _, _]) rfl rfl ?_ | (refine kR 0 rfl ?_; (first | refine R_mt rfl rfl rfl rfl ?_ | refine R_move rfl rfl _ (.inl rfl) (y := .ln _) rfl ?_)) | (refine kR 1610 rfl ?_; (refine R_cl rfl rfl Try.func50 rfl (wcopy_c l hl) ?_; refine ⟨6, _, _, _, rfl, qU, qU, qZ, ?_⟩)) | (refine kR 1614 rfl ?_; refine R_build rfl rfl 50 _ rfl ud50 inf50 [(0, 1), (1, 1), (2, 1), (3, 1)] (by kernel_rfl) (zs := [.t (.v (.int .i64 0)), .t (.v (.int .i64 0)), .t (.v (.int .i64 0)), .t (.v (.int .i64 0))]) rfl (.cons rfl .nil) (cs := [_, _, _, _]) rfl ?_) | refine R_store rfl rfl 66 _ _ rfl inf66 rfl rfl rfl rfl (Nat.le_of_ble_eq_true rfl) qN qN ?_ | (refine kR 1 rfl ?_; (first | refine R_move rfl rfl _ (.inr rfl) (y := .sl _ _ _) rfl ?_ | refine R_move rfl rfl _ (.inr rfl) (y := .nl) rfl ?_)) | refine R_store rfl rfl 50 _ _ rfl inf50 rfl rfl rfl rfl (Nat.le_of_ble_eq_true rfl) qN qN ?_ | refine RG.nil ⟨by kernel_rfl, ?_⟩)) | (with_reducible (first | refine wk0 ?_ | refine wk2 ?_ | refine wk3 ?_ | refine wk9 ?_ | refine wkb ?_)) | refine kct rfl ?_ | with_reducible refine AW.at_region _ ?_ | refine AW.at_draw 6 mixed 1 [[], [], [1], [], [3], [0, 1, 2], [0, 1, 2, 5], [0, 1, 2, 3, 4, 5, 6], [0, 1, 2, 3, 4, 5, 6, 7]] qR ?_)
      all_goals first | (exfalso; omega) | (exact Fin.q Try.results122 (.cons (.agg rfl rfl ud66 rfl inf66 (us := [_, _, _, _, _]) rfl rfl) (.cons (.tmp rfl) (.cons (.agg rfl rfl ud50 rfl inf50 (us := [_, _, _, _]) rfl rfl) (.cons (.tmp rfl) .nil)))) [5, 6])
    simp only [Bool.false_eq_true, if_false, gA, chB]
    rw [show buf.headD 0 = x0 by rw [hB]; rfl]
    have h0' := Cd.frz h0 0 rfl (by repeat' (first | exact FzL.nil | apply FzL.cons | exact FzR.nlt | exact FzR.all (by first | rfl | (simp <;> fail) | (simp; omega)) | exact FzR.sl (by first | exact Nat.le_refl _ | (simp <;> fail) | (simp; omega)) | apply FzR.aggL | exact FzR.same _)) rfl; have h0'' := Cd.frz h0' 1 rfl (by repeat' (first | exact FzL.nil | apply FzL.cons | exact FzR.nlt | exact FzR.all (by first | rfl | (simp <;> fail) | (simp; omega)) | exact FzR.sl (by first | exact Nat.le_refl _ | (simp <;> fail) | (simp; omega)) | apply FzR.aggL | exact FzR.same _)) rfl; exact Cd.drop h0'' rfl
  · obtain ⟨t, m, w, k, e1, e2, hw, hon, hc, e3, e4⟩ := fir_ok hk
    have hT : thW l (fir l 1 h) = w := by unfold thW; rw [e1, Int.toNat_natCast, getD_of hw]
    have hV : thV l (fir l 1 h) = k.value := by unfold thV; rw [hT, e2, Int.toNat_natCast, getD_of hc]
    have cE := ended_c l t m 0 0 w hw
    have cX := wcut_c l t hl
    rw [cutOk_yes hw hon] at cX
    rw [hk, e1, e2] at cF
    rw [if_pos rfl, hV, hT, e1, e2]
    obtain ⟨g, cap, used, closed, buf⟩ := c
    have h1 : (buf.map tI).length = buf.length := List.length_map _
    have ht := get_lt hw
    have hm := get_lt hc
    have h2 : (l.map tWt).length = l.length := List.length_map _
    have h4 : (w.cases.map tCs).length = w.cases.length := List.length_map _
    dsimp only at hb
    dsimp only [aC] at hcc
    obtain ⟨x0, T, hB⟩ : ∃ x0 T, buf ++ [k.value] = x0 :: T := List.exists_cons_of_length_pos (by simp)
    have hx0 : (buf ++ [k.value])[0]? = some x0 := by rw [hB]; rfl
    have hd : (buf ++ [k.value]).drop 1 = T := by rw [hB]; rfl
    have hTl : T.length = buf.length := by have := congrArg List.length hB; simp at this; omega
    have cK := clone_I ((buf ++ [k.value]).drop 1) (by simp; omega)
    have h3 : ((buf ++ [k.value]).drop 1).length = buf.length := by simp
    rw [h3] at cK
    have h5 : ((buf ++ [k.value]).map tI).length = buf.length + 1 := by simp
    have h6 : (buf ++ [k.value]).length = buf.length + 1 := by simp
    have h0 : Cd Try.prog 122 [.agg [i64 g, i64 cap, bo used, bo closed, .ln (buf.map tI)], i64 h, .ln (l.map tWt)] (.tup [.agg [i64 g, i64 cap, bo used, bo closed, .sl 0 0 buf.length], .sl 1 0 l.length, .agg [i64 0, i64 0, i64 0, i64 x0], .sl 2 0 1]) [.row 0 3 1 (((buf ++ [k.value]).drop 1).map tI), .row 0 43 4 ((cutW l t).map tWt), .row 0 124 5 [tTd ⟨t, ⟨w.seq, m, 0, 0⟩⟩]] := by
      refine Cd.enter' Try.func122 rfl Try.ntmps122 rfl ?_
      repeat' (first | ((with_reducible refine kAL ?_); (first | refine A_box rfl rfl 66 _ rfl rfl (.push qL qN) ?_ | refine A_alloc rfl rfl 66 rfl inf66 (cs := [.t (.v (.int .i64 0)), .t (.v (.int .i64 0)), .t (.v (.bool false)), .t (.v (.bool false)), AV.nl]) rfl (.push qL qN) ?_ | (refine kL 1 rfl ?_; (first | refine A_as rfl rfl rfl rfl ?_ | refine A_move rfl rfl _ (.inr rfl) (y := .sl _ _ _) rfl ?_ | refine A_move rfl rfl _ (.inr rfl) (y := .nl) rfl ?_)) | refine A_alloc rfl rfl 50 rfl inf50 (cs := [.t (.v (.int .i64 0)), .t (.v (.int .i64 0)), .t (.v (.int .i64 0)), .t (.v (.int .i64 0))]) rfl (.push qL qN) ?_ | refine A_load_agg rfl rfl 66 _ rfl ud66 rfl inf66 rfl rfl (us' := [_, _, _, _, _]) rfl rfl ?_ | (refine kL 1674 rfl ?_; refine A_cl rfl rfl Try.func52 rfl (hcc) ?_) | refine A_store rfl rfl 66 _ _ rfl inf66 rfl rfl rfl rfl (Nat.le_of_ble_eq_true rfl) qN qN ?_ | (refine kL 0 rfl ?_; (first | refine A_mt rfl rfl rfl rfl ?_ | refine A_move rfl rfl _ (.inl rfl) (y := .ln _) rfl ?_ | refine A_move rfl rfl _ (.inl rfl) (y := .tup _) rfl ?_)) | (refine kL 3562 rfl ?_; refine A_cl rfl rfl Try.func111 rfl (cF) ?_) | (refine kL 18 rfl ?_; (first | refine A_extract rfl rfl _ 0 rfl rfl rfl ?_ | refine A_extract rfl rfl _ 1 rfl rfl rfl ?_ | refine A_extract rfl rfl _ 2 rfl rfl rfl ?_)) | refine A_not rfl rfl _ _ rfl rfl ?_ | refine A_field rfl rfl 66 _ 4 rfl ud66 rfl inf22 (by decide) 4 rfl rfl ?_ | refine A_load rfl rfl 22 _ rfl ud22 rfl rfl rfl rfl ?_ | (refine kL 710 rfl ?_; refine A_idx_sl rfl rfl 22 _ _ rfl ud22 inf3 rfl rfl (by first | (simp <;> fail) | fail) rfl (by omega) _ (rfl : Int.toNat 0 = 0) (by omega) ?_) | refine A_load_rp rfl rfl 3 _ rfl ud3 rfl rfl rfl (by exact map_get (by assumption)) rfl ?_ | (refine kL 717 rfl ?_; refine A_cut_sub rfl rfl 22 _ _ _ rfl ud22 inf3 rfl rfl (.yes rfl (by omega) (rfl : Int.toNat 1 = 1)) (.no _) (by omega) (by omega) (by (try simp only [Nat.sub_zero]); rfl) ?_) | (refine kL 2602 rfl ?_; refine A_cl rfl rfl Try.func81 rfl (cK) ?_) | refine A_store rfl rfl 22 _ _ rfl inf22 rfl rfl rfl rfl (Nat.le_of_ble_eq_true rfl) qN qN ?_ | (refine kL 3690 rfl ?_; refine A_cl rfl rfl Try.func115 rfl (cE) ?_) | refine A_alloc rfl rfl 124 rfl inf124 (cs := [.t (.v (.int .i64 0)), .t (.v (.int .i64 0)), .t (.v (.int .i64 0)), .t (.v (.int .i64 0)), .t (.v (.int .i64 0))]) rfl (.push qL qN) ?_ | refine A_store rfl rfl 124 _ _ rfl inf124 rfl rfl rfl rfl (Nat.le_of_ble_eq_true rfl) qN qN ?_ | (refine kL 3146 rfl ?_; refine A_cl rfl rfl Try.func98 rfl (cX) ?_) | refine AL.nil ?_)) | ((with_reducible refine kRG ?_); (first | refine R_load_agg rfl rfl 66 _ rfl ud66 rfl inf66 rfl rfl (us' := [_, _, _, _, _]) rfl rfl ?_ | (refine kR 0 rfl ?_; (first | refine R_mt rfl rfl rfl rfl ?_ | refine R_move rfl rfl _ (.inl rfl) (y := .sl _ _ _) rfl ?_ | refine R_move rfl rfl _ (.inl rfl) (y := .ln _) rfl ?_)) | (refine kR 1614 rfl ?_; refine R_build rfl rfl 50 _ rfl ud50 inf50 [(0, 1), (1, 1), (2, 1), (3, 1)] (by kernel_rfl) (zs := [.t (.v (.int .i64 0)), .t (.v (.int .i64 0)), .t (.v (.int .i64 0)), .t (.v (.int .i64 0))]) rfl (.cons rfl .nil) (cs := [_, _, _, _]) rfl ?_) | refine R_store rfl rfl 66 _ _ rfl inf66 rfl rfl rfl rfl (Nat.le_of_ble_eq_true rfl) qN qN ?_ | refine R_move rfl rfl _ (.inr rfl) (y := .sl _ _ _) rfl ?_ | refine R_store rfl rfl 50 _ _ rfl inf50 rfl rfl rfl rfl (Nat.le_of_ble_eq_true rfl) qN qN ?_ | refine R_field rfl rfl 66 _ 4 rfl ud66 rfl inf22 (by decide) 4 rfl rfl ?_ | refine R_load rfl rfl 22 _ rfl ud22 rfl rfl rfl rfl ?_ | (refine kR 838 rfl ?_; refine R_idx rfl rfl 26 _ _ rfl ud26 inf43 (by decide) (by exact .inl rfl) rfl (by omega) _ (by with_reducible exact Int.toNat_natCast _) (by exact map_get (by assumption)) rfl (cs' := [_, _, _, _]) rfl ?_) | refine R_field rfl rfl 43 _ 3 rfl ud43 rfl inf30 (by decide) 3 rfl rfl ?_ | refine R_load_lp rfl rfl 30 _ rfl ud30 rfl rfl rfl ?_ | (refine kR 966 rfl ?_; refine R_idx rfl rfl 30 _ _ rfl ud30 inf45 (by decide) (by exact .inr rfl) rfl (by omega) _ (by with_reducible exact Int.toNat_natCast _) (by exact map_get (by assumption)) rfl (cs' := [_, _, _]) rfl ?_) | refine R_field rfl rfl 45 _ 2 rfl ud45 rfl inf3 (by decide) 2 rfl rfl ?_ | refine R_load_lp rfl rfl 3 _ rfl ud3 rfl rfl rfl ?_ | (refine kR 719 rfl ?_; refine R_lit (N := 5) rfl rfl 22 1 _ rfl ud22 inf3 (.cons rfl .nil) (els := [[_]]) rfl (by exact (rfl : _ = List.map tI [_])) rfl (Nat.ne_of_beq_eq_false rfl) (Nat.le_of_ble_eq_true rfl) (Nat.le_of_ble_eq_true rfl) rfl qN ?_) | (refine kR 12 rfl ?_; refine R_append rfl rfl _ _ 22 rfl ud22 inf3 rfl rfl rfl (by first | (simp <;> fail) | fail) (by exact .all rfl (by rfl)) qB qB (by exact app_one (f := tI) (x := _) (by rfl)) qN qS ?_) | refine R_store rfl rfl 22 _ _ rfl inf22 rfl rfl rfl rfl (Nat.le_of_ble_eq_true rfl) qN qN ?_ | refine R_load_agg rfl rfl 124 _ rfl ud124 rfl inf124 rfl rfl (us' := [_, _, _, _, _]) rfl rfl ?_ | (refine kR 3055 rfl ?_; refine R_lit (N := 6) rfl rfl 95 1 _ rfl ud95 inf124 (.cons rfl .nil) (els := [[_, _, _, _, _]]) rfl (by exact (rfl : _ = List.map tTd [⟨t, ⟨w.seq, m, 0, 0⟩⟩])) rfl (Nat.ne_of_beq_eq_false rfl) (Nat.le_of_ble_eq_true rfl) (Nat.le_of_ble_eq_true rfl) rfl qN ?_) | refine RG.nil ⟨by kernel_rfl, ?_⟩)) | (with_reducible (first | refine wk0 ?_ | refine wk2 ?_ | refine wk9 ?_ | refine wkb ?_ | refine wkd ?_)) | refine kcf rfl ?_ | with_reducible refine AW.at_region _ ?_ | refine AW.at_draw 7 mixed 2 [[], [0], [], [], [2, 3], [2, 3, 4], [2, 3, 4, 5], [], [2, 3, 4, 5, 6, 7], [2, 3, 4, 5, 6, 7, 8], [2, 3, 4, 5, 6, 7, 8, 9], [2, 3, 4, 5, 6, 7, 8, 9, 10], [0, 1, 2, 3, 4, 5, 6, 7, 8, 9, 10, 11], [0, 1, 2, 3, 4, 5, 6, 7, 8, 9, 10, 11, 12], [0, 1, 2, 3, 4, 5, 6, 7, 8, 9, 10, 11, 12, 13]] qR ?_ | refine AW.at_draw 12 mixed 1 [[], [], [], [2], [], [4], [0], [0, 1, 6], [0, 1, 2, 3, 6, 7], [0, 1, 2, 3, 4, 5, 6, 7, 8]] qR ?_)
      all_goals first | (exfalso; omega) | (exact Fin.q Try.results122 (.cons (.agg rfl rfl ud66 rfl inf66 (us := [_, _, _, _, _]) rfl rfl) (.cons (.tmp rfl) (.cons (.agg rfl rfl ud50 rfl inf50 (us := [_, _, _, _]) rfl rfl) (.cons (.tmp rfl) .nil)))) [7, 9, 6])
    rw [show (buf ++ [k.value]).headD 0 = x0 by rw [hB]; rfl]
    have h0' := Cd.frz h0 0 rfl (by repeat' (first | exact FzL.nil | apply FzL.cons | exact FzR.nlt | exact FzR.all (by first | rfl | (simp <;> fail) | (simp; omega)) | exact FzR.sl (by first | exact Nat.le_refl _ | (simp <;> fail) | (simp; omega)) | apply FzR.aggL | exact FzR.same _)) rfl; have h0'' := Cd.frz h0' 1 rfl (by repeat' (first | exact FzL.nil | apply FzL.cons | exact FzR.nlt | exact FzR.all (by first | rfl | (simp <;> fail) | (simp; omega)) | exact FzR.sl (by first | exact Nat.le_refl _ | (simp <;> fail) | (simp; omega)) | apply FzR.aggL | exact FzR.same _)) rfl; have h0''' := Cd.frz h0'' 2 rfl (by repeat' (first | exact FzL.nil | apply FzL.cons | exact FzR.nlt | exact FzR.all (by first | rfl | (simp <;> fail) | (simp; omega)) | exact FzR.sl (by first | exact Nat.le_refl _ | (simp <;> fail) | (simp; omega)) | apply FzR.aggL | exact FzR.same _)) rfl; exact Cd.drop h0''' rfl
end Go.Proofs.Ytphcebioiipdpaa


namespace Go.Proofs.Ytphcebioiipdpaa
set_option linter.unusedVariables false
set_option linter.unusedSimpArgs false
set_option linter.unnecessarySimpa false
open Go.RowKit
set_option maxHeartbeats 32000000
attribute [local irreducible] AL AW RG Fin C Cd Cio thenQ blockQ retQ
set_option maxRecDepth 100000
attribute [local simp] putW_len cutW_len
def doG (c : DChan) (h : Int) (l : List DWait) (d v : Int) : DG :=
  if rdyC c h l d then
    if d = 1 then (if c.closed then ⟨c, l, ⟨0, 0, 9, 0⟩, []⟩ else sendG c h l v)
    else if decide (0 < (c.buf.length : Int)) || (fir l 1 h).ok then recvG c h l else ⟨c, l, ⟨0, 0, 9, 0⟩, []⟩
  else ⟨c, l, ⟨0, 0, 10, 0⟩, []⟩
theorem rdy_d {c : DChan} {h : Int} {l : List DWait} {d : Int} (hr : rdyC c h l d = true) : d = 1 ∨ d = 2 := by
  unfold rdyC at hr
  by_cases d1 : d = 1
  · exact .inl d1
  · by_cases d2 : d = 2
    · exact .inr d2
    · rw [if_neg d1, if_neg d2, Bool.and_false] at hr; cases hr
set_option maxHeartbeats 8000000 in
theorem do_c (c : DChan) (h : Int) (l : List DWait) (d v : Int) (hl : okW l) (hb : c.buf.length ≤ 17592186043904) : Cd Try.prog 112 [aC c, i64 h, .ln (l.map tWt), i64 d, i64 v] (gA (doG c h l d v)) [] := by
  have h1 : (c.buf.map tI).length = c.buf.length := List.length_map _
  have hcc := ccopy_c c (by omega)
  have cF := first_c l 1 h hl
  have cR := ready_c c h l d hl
  have cW := wcopy_c l hl
  unfold doG
  cases hr : rdyC c h l d
  · rw [hr] at cR
    rw [if_neg (by simp)]
    have h0 : Cd Try.prog 112 [aC c, i64 h, .ln (l.map tWt), i64 d, i64 v] (.tup [.agg [i64 c.gen, i64 c.cap, bo c.used, bo c.closed, .sl 0 0 c.buf.length], .sl 1 0 l.length, .agg [i64 0, i64 0, i64 10, i64 0], .nl]) [.row 0 3 1 (c.buf.map tI), .row 0 43 4 (l.map tWt)] := by
      refine Cd.enter' Try.func112 rfl Try.ntmps112 rfl ?_
      repeat' (first | ((with_reducible refine kAL ?_); (first | refine A_box rfl rfl 66 _ rfl rfl (.push qL qN) ?_ | refine A_alloc rfl rfl 66 rfl inf66 (cs := [.t (.v (.int .i64 0)), .t (.v (.int .i64 0)), .t (.v (.bool false)), .t (.v (.bool false)), AV.nl]) rfl (.push qL qN) ?_ | (refine kL 1 rfl ?_; (first | refine A_as rfl rfl rfl rfl ?_ | refine A_move rfl rfl _ (.inr rfl) (y := .sl _ _ _) rfl ?_ | refine A_move rfl rfl _ (.inr rfl) (y := .nl) rfl ?_)) | refine A_alloc rfl rfl 50 rfl inf50 (cs := [.t (.v (.int .i64 0)), .t (.v (.int .i64 0)), .t (.v (.int .i64 0)), .t (.v (.int .i64 0))]) rfl (.push qL qN) ?_ | (refine kL 0 rfl ?_; (first | refine A_mt rfl rfl rfl rfl ?_ | refine A_move rfl rfl _ (.inl rfl) (y := .ln _) rfl ?_ | refine A_move rfl rfl _ (.inl rfl) (y := .tup _) rfl ?_)) | (refine kL 3562 rfl ?_; refine A_cl rfl rfl Try.func111 rfl (cF) ?_) | (refine kL 18 rfl ?_; (first | refine A_extract rfl rfl _ 0 rfl rfl rfl ?_ | refine A_extract rfl rfl _ 1 rfl rfl rfl ?_ | refine A_extract rfl rfl _ 2 rfl rfl rfl ?_)) | refine A_load_agg rfl rfl 66 _ rfl ud66 rfl inf66 rfl rfl (us' := [_, _, _, _, _]) rfl rfl ?_ | (refine kL 2986 rfl ?_; refine A_cl rfl rfl Try.func93 rfl (cR) ?_) | refine A_not rfl rfl _ _ rfl rfl ?_ | (refine kL 1674 rfl ?_; refine A_cl rfl rfl Try.func52 rfl (hcc) ?_) | (refine kL 1610 rfl ?_; refine A_cl rfl rfl Try.func50 rfl (cW) ?_) | (refine kL 1614 rfl ?_; refine A_build rfl rfl 50 _ rfl ud50 inf50 [(0, 1), (1, 1), (2, 1), (3, 1)] (by kernel_rfl) (zs := [.t (.v (.int .i64 0)), .t (.v (.int .i64 0)), .t (.v (.int .i64 0)), .t (.v (.int .i64 0))]) rfl (.cons rfl .nil) (cs := [_, _, _, _]) rfl ?_) | refine A_store rfl rfl 66 _ _ rfl inf66 rfl rfl rfl rfl (Nat.le_of_ble_eq_true rfl) qN qN ?_ | refine A_store rfl rfl 50 _ _ rfl inf50 rfl rfl rfl rfl (Nat.le_of_ble_eq_true rfl) qN qN ?_ | refine AL.nil ?_)) | with_reducible refine AW.at_region _ ?_ | (with_reducible (first | refine wk0 ?_ | refine wk1 ?_ | refine wk2 ?_ | refine wk3 ?_ | refine wk6 ?_ | refine wk9 ?_ | refine wkb ?_)) | refine kct rfl ?_)
      all_goals first | (exfalso; omega) | (exact Fin.q Try.results112 (.cons (.agg rfl rfl ud66 rfl inf66 (us := [_, _, _, _, _]) rfl rfl) (.cons (.tmp rfl) (.cons (.agg rfl rfl ud50 rfl inf50 (us := [_, _, _, _]) rfl rfl) (.cons (.tmp rfl) .nil)))) [3, 4])
    unfold gA
    have h0' := Cd.frz h0 0 rfl (by repeat' (first | exact FzL.nil | apply FzL.cons | exact FzR.nlt | exact FzR.all (by first | rfl | (simp <;> fail) | (simp; omega)) | exact FzR.sl (by first | exact Nat.le_refl _ | (simp <;> fail) | (simp; omega)) | apply FzR.aggL | exact FzR.same _)) rfl; have h0'' := Cd.frz h0' 1 rfl (by repeat' (first | exact FzL.nil | apply FzL.cons | exact FzR.nlt | exact FzR.all (by first | rfl | (simp <;> fail) | (simp; omega)) | exact FzR.sl (by first | exact Nat.le_refl _ | (simp <;> fail) | (simp; omega)) | apply FzR.aggL | exact FzR.same _)) rfl; exact Cd.drop h0'' rfl
  · rw [hr] at cR
    rw [if_pos rfl]
    rcases rdy_d hr with rfl | rfl
    · rw [if_pos rfl]
      obtain ⟨g, cap, used, closed, buf⟩ := c
      have cS := send_c ⟨g, cap, used, closed, buf⟩ h l v hl hb
      dsimp only [aC] at cR hcc cS
      cases closed
      · rw [if_neg (by simp)]
        unfold gA at cS ⊢
        refine Cd.enter' Try.func112 rfl Try.ntmps112 rfl ?_
        repeat' (first | ((with_reducible refine kAL ?_); (first | refine A_box rfl rfl 66 _ rfl rfl (.push qL qN) ?_ | refine A_alloc rfl rfl 66 rfl inf66 (cs := [.t (.v (.int .i64 0)), .t (.v (.int .i64 0)), .t (.v (.bool false)), .t (.v (.bool false)), AV.nl]) rfl (.push qL qN) ?_ | (refine kL 1 rfl ?_; (first | refine A_as rfl rfl rfl rfl ?_ | refine A_move rfl rfl _ (.inr rfl) (y := .nl) rfl ?_)) | refine A_alloc rfl rfl 50 rfl inf50 (cs := [.t (.v (.int .i64 0)), .t (.v (.int .i64 0)), .t (.v (.int .i64 0)), .t (.v (.int .i64 0))]) rfl (.push qL qN) ?_ | (refine kL 0 rfl ?_; (first | refine A_mt rfl rfl rfl rfl ?_ | refine A_move rfl rfl _ (.inl rfl) (y := .ln _) rfl ?_ | refine A_move rfl rfl _ (.inl rfl) (y := .tup _) rfl ?_)) | (refine kL 3562 rfl ?_; refine A_cl rfl rfl Try.func111 rfl (cF) ?_) | (refine kL 18 rfl ?_; (first | refine A_extract rfl rfl _ 0 rfl rfl rfl ?_ | refine A_extract rfl rfl _ 1 rfl rfl rfl ?_ | refine A_extract rfl rfl _ 2 rfl rfl rfl ?_ | refine A_extract rfl rfl _ 3 rfl rfl rfl ?_)) | refine A_load_agg rfl rfl 66 _ rfl ud66 rfl inf66 rfl rfl (us' := [_, _, _, _, _]) rfl rfl ?_ | (refine kL 2986 rfl ?_; refine A_cl rfl rfl Try.func93 rfl (cR) ?_) | refine A_not rfl rfl _ _ rfl rfl ?_ | refine A_store rfl rfl 66 _ _ rfl inf66 rfl rfl rfl rfl (Nat.le_of_ble_eq_true rfl) qN qN ?_ | refine A_store rfl rfl 50 _ _ rfl inf50 rfl rfl rfl rfl (Nat.le_of_ble_eq_true rfl) qN qN ?_ | refine A_cmp (d := 38) rfl rfl (c := true) .eql 3 3 _ _ rfl rfl rfl (by exact congrArg some (decide_eq_true (by (try (dsimp only; fail_if_success done)); omega))) ?_ | refine A_field rfl rfl 66 _ 3 rfl ud66 rfl inf4 (by decide) 3 rfl rfl ?_ | refine A_load rfl rfl 4 _ rfl ud4 rfl rfl rfl rfl ?_ | refine A_pick rfl rfl _ _ _ rfl rfl rfl rfl rfl ?_ | (refine kL 3882 rfl ?_; refine A_cl rfl rfl Try.func121 rfl (cS) ?_) | refine AL.nil ?_)) | with_reducible refine AW.at_region _ ?_ | (with_reducible (first | refine wk0 ?_ | refine wk1 ?_ | refine wk2 ?_ | refine wk3 ?_ | refine wk6 ?_ | refine wk9 ?_ | refine wkb ?_)) | refine kct rfl ?_ | refine kcf rfl ?_)
        all_goals first | (exfalso; omega) | (exact Fin.q Try.results112 (.cons (.agg rfl rfl ud66 rfl inf66 (us := [_, _, _, _, _]) rfl rfl) (.cons (.tmp rfl) (.cons (.agg rfl rfl ud50 rfl inf50 (us := [_, _, _, _]) rfl rfl) (.cons (.tmp rfl) .nil)))) [])
      · rw [if_pos rfl]
        have h0 : Cd Try.prog 112 [.agg [i64 g, i64 cap, bo used, bo true, .ln (buf.map tI)], i64 h, .ln (l.map tWt), i64 1, i64 v] (.tup [.agg [i64 g, i64 cap, bo used, bo true, .sl 0 0 buf.length], .sl 1 0 l.length, .agg [i64 0, i64 0, i64 9, i64 0], .nl]) [.row 0 3 1 (buf.map tI), .row 0 43 4 (l.map tWt)] := by
          refine Cd.enter' Try.func112 rfl Try.ntmps112 rfl ?_
          repeat' (first | ((with_reducible refine kAL ?_); (first | refine A_box rfl rfl 66 _ rfl rfl (.push qL qN) ?_ | refine A_alloc rfl rfl 66 rfl inf66 (cs := [.t (.v (.int .i64 0)), .t (.v (.int .i64 0)), .t (.v (.bool false)), .t (.v (.bool false)), AV.nl]) rfl (.push qL qN) ?_ | (refine kL 1 rfl ?_; (first | refine A_as rfl rfl rfl rfl ?_ | refine A_move rfl rfl _ (.inr rfl) (y := .sl _ _ _) rfl ?_ | refine A_move rfl rfl _ (.inr rfl) (y := .nl) rfl ?_)) | refine A_alloc rfl rfl 50 rfl inf50 (cs := [.t (.v (.int .i64 0)), .t (.v (.int .i64 0)), .t (.v (.int .i64 0)), .t (.v (.int .i64 0))]) rfl (.push qL qN) ?_ | (refine kL 0 rfl ?_; (first | refine A_mt rfl rfl rfl rfl ?_ | refine A_move rfl rfl _ (.inl rfl) (y := .ln _) rfl ?_ | refine A_move rfl rfl _ (.inl rfl) (y := .tup _) rfl ?_)) | (refine kL 3562 rfl ?_; refine A_cl rfl rfl Try.func111 rfl (cF) ?_) | (refine kL 18 rfl ?_; (first | refine A_extract rfl rfl _ 0 rfl rfl rfl ?_ | refine A_extract rfl rfl _ 1 rfl rfl rfl ?_ | refine A_extract rfl rfl _ 2 rfl rfl rfl ?_)) | refine A_load_agg rfl rfl 66 _ rfl ud66 rfl inf66 rfl rfl (us' := [_, _, _, _, _]) rfl rfl ?_ | (refine kL 2986 rfl ?_; refine A_cl rfl rfl Try.func93 rfl (cR) ?_) | refine A_not rfl rfl _ _ rfl rfl ?_ | (refine kL 1674 rfl ?_; refine A_cl rfl rfl Try.func52 rfl (hcc) ?_) | (refine kL 1610 rfl ?_; refine A_cl rfl rfl Try.func50 rfl (cW) ?_) | (refine kL 1614 rfl ?_; refine A_build rfl rfl 50 _ rfl ud50 inf50 [(0, 1), (1, 1), (2, 1), (3, 1)] (by kernel_rfl) (zs := [.t (.v (.int .i64 0)), .t (.v (.int .i64 0)), .t (.v (.int .i64 0)), .t (.v (.int .i64 0))]) rfl (.cons rfl .nil) (cs := [_, _, _, _]) rfl ?_) | refine A_store rfl rfl 66 _ _ rfl inf66 rfl rfl rfl rfl (Nat.le_of_ble_eq_true rfl) qN qN ?_ | refine A_store rfl rfl 50 _ _ rfl inf50 rfl rfl rfl rfl (Nat.le_of_ble_eq_true rfl) qN qN ?_ | (refine kL 105 rfl ?_; (first | refine A_cmp (d := 38) rfl rfl (c := true) .eql 3 3 _ _ rfl rfl rfl (by exact congrArg some (decide_eq_true (by (try (dsimp only; fail_if_success done)); omega))) ?_ | refine A_cmp (d := 55) rfl rfl (c := false) .eql 3 3 _ _ rfl rfl rfl (by exact congrArg some (decide_eq_false (by (try (dsimp only; fail_if_success done)); omega))) ?_)) | refine A_field rfl rfl 66 _ 3 rfl ud66 rfl inf4 (by decide) 3 rfl rfl ?_ | refine A_load rfl rfl 4 _ rfl ud4 rfl rfl rfl rfl ?_ | refine A_pick rfl rfl _ _ _ rfl rfl rfl rfl rfl ?_ | refine AL.nil ?_ | refine AL.skip rfl rfl ?_)) | with_reducible refine AW.at_region _ ?_ | (with_reducible (first | refine wk0 ?_ | refine wk1 ?_ | refine wk2 ?_ | refine wk5 ?_ | refine wk9 ?_ | refine wkb ?_ | refine wkd ?_)) | refine kcf rfl ?_)
          all_goals first | (exfalso; omega) | (exact Fin.q Try.results112 (.cons (.agg rfl rfl ud66 rfl inf66 (us := [_, _, _, _, _]) rfl rfl) (.cons (.tmp rfl) (.cons (.agg rfl rfl ud50 rfl inf50 (us := [_, _, _, _]) rfl rfl) (.cons (.tmp rfl) .nil)))) [3, 4])
        unfold gA
        have h0' := Cd.frz h0 0 rfl (by repeat' (first | exact FzL.nil | apply FzL.cons | exact FzR.nlt | exact FzR.all (by first | rfl | (simp <;> fail) | (simp; omega)) | exact FzR.sl (by first | exact Nat.le_refl _ | (simp <;> fail) | (simp; omega)) | apply FzR.aggL | exact FzR.same _)) rfl; have h0'' := Cd.frz h0' 1 rfl (by repeat' (first | exact FzL.nil | apply FzL.cons | exact FzR.nlt | exact FzR.all (by first | rfl | (simp <;> fail) | (simp; omega)) | exact FzR.sl (by first | exact Nat.le_refl _ | (simp <;> fail) | (simp; omega)) | apply FzR.aggL | exact FzR.same _)) rfl; exact Cd.drop h0'' rfl
    · rw [if_neg (by decide)]
      have cV := fun hh => recv_c c h l hl hb hh
      cases hok : (fir l 1 h).ok
      · rw [hok] at cF
        by_cases hp : 0 < (c.buf.length : Int)
        · rw [decide_eq_true hp, Bool.true_or, if_pos rfl]
          have cV := cV (.inl (by omega))
          unfold gA at cV ⊢
          refine Cd.enter' Try.func112 rfl Try.ntmps112 rfl ?_
          repeat' (first | ((with_reducible refine kAL ?_); (first | refine A_box rfl rfl 66 _ rfl rfl (.push qL qN) ?_ | refine A_alloc rfl rfl 66 rfl inf66 (cs := [.t (.v (.int .i64 0)), .t (.v (.int .i64 0)), .t (.v (.bool false)), .t (.v (.bool false)), AV.nl]) rfl (.push qL qN) ?_ | (refine kL 1 rfl ?_; (first | refine A_as rfl rfl rfl rfl ?_ | refine A_move rfl rfl _ (.inr rfl) (y := .nl) rfl ?_)) | refine A_alloc rfl rfl 50 rfl inf50 (cs := [.t (.v (.int .i64 0)), .t (.v (.int .i64 0)), .t (.v (.int .i64 0)), .t (.v (.int .i64 0))]) rfl (.push qL qN) ?_ | (refine kL 0 rfl ?_; (first | refine A_mt rfl rfl rfl rfl ?_ | refine A_move rfl rfl _ (.inl rfl) (y := .ln _) rfl ?_ | refine A_move rfl rfl _ (.inl rfl) (y := .tup _) rfl ?_)) | (refine kL 3562 rfl ?_; refine A_cl rfl rfl Try.func111 rfl (cF) ?_) | (refine kL 18 rfl ?_; (first | refine A_extract rfl rfl _ 0 rfl rfl rfl ?_ | refine A_extract rfl rfl _ 1 rfl rfl rfl ?_ | refine A_extract rfl rfl _ 2 rfl rfl rfl ?_ | refine A_extract rfl rfl _ 3 rfl rfl rfl ?_)) | refine A_load_agg rfl rfl 66 _ rfl ud66 rfl inf66 rfl rfl (us' := [_, _, _, _, _]) rfl rfl ?_ | (refine kL 2986 rfl ?_; refine A_cl rfl rfl Try.func93 rfl (cR) ?_) | refine A_not rfl rfl _ _ rfl rfl ?_ | refine A_store rfl rfl 66 _ _ rfl inf66 rfl rfl rfl rfl (Nat.le_of_ble_eq_true rfl) qN qN ?_ | refine A_store rfl rfl 50 _ _ rfl inf50 rfl rfl rfl rfl (Nat.le_of_ble_eq_true rfl) qN qN ?_ | (refine kL 105 rfl ?_; (first | refine A_cmp (d := 38) rfl rfl (c := false) .eql 3 3 _ _ rfl rfl rfl (by exact congrArg some (decide_eq_false (by (try (dsimp only; fail_if_success done)); omega))) ?_ | refine A_cmp (d := 55) rfl rfl (c := true) .eql 3 3 _ _ rfl rfl rfl (by exact congrArg some (decide_eq_true (by (try (dsimp only; fail_if_success done)); omega))) ?_ | refine A_cmp (d := 60) rfl rfl (c := true) .gtr 3 3 _ _ rfl rfl rfl (by exact congrArg some (decide_eq_true (by (try (dsimp only; fail_if_success done)); omega))) ?_)) | refine A_field rfl rfl 66 _ 4 rfl ud66 rfl inf22 (by decide) 4 rfl rfl ?_ | refine A_pick rfl rfl _ _ _ rfl rfl rfl rfl rfl ?_ | refine A_load rfl rfl 22 _ rfl ud22 rfl rfl rfl rfl ?_ | refine A_len rfl rfl 22 _ rfl ud22 rfl ?_ | (refine kL 3914 rfl ?_; refine A_cl rfl rfl Try.func122 rfl (cV) ?_) | refine AL.nil ?_ | refine AL.skip rfl rfl ?_)) | with_reducible refine AW.at_region _ ?_ | (with_reducible (first | refine wk0 ?_ | refine wk1 ?_ | refine wk2 ?_ | refine wk3 ?_ | refine wk6 ?_ | refine wk9 ?_ | refine wkb ?_)) | refine kct rfl ?_ | refine kcf rfl ?_)
          all_goals first | (exfalso; omega) | (exact Fin.q Try.results112 (.cons (.agg rfl rfl ud66 rfl inf66 (us := [_, _, _, _, _]) rfl rfl) (.cons (.tmp rfl) (.cons (.agg rfl rfl ud50 rfl inf50 (us := [_, _, _, _]) rfl rfl) (.cons (.tmp rfl) .nil)))) [])
        · rw [decide_eq_false hp, Bool.false_or, if_neg (by simp)]
          have h0 : Cd Try.prog 112 [aC c, i64 h, .ln (l.map tWt), i64 2, i64 v] (.tup [.agg [i64 c.gen, i64 c.cap, bo c.used, bo c.closed, .sl 0 0 c.buf.length], .sl 1 0 l.length, .agg [i64 0, i64 0, i64 9, i64 0], .nl]) [.row 0 3 1 (c.buf.map tI), .row 0 43 4 (l.map tWt)] := by
            refine Cd.enter' Try.func112 rfl Try.ntmps112 rfl ?_
            repeat' (first | ((with_reducible refine kAL ?_); (first | refine A_box rfl rfl 66 _ rfl rfl (.push qL qN) ?_ | refine A_alloc rfl rfl 66 rfl inf66 (cs := [.t (.v (.int .i64 0)), .t (.v (.int .i64 0)), .t (.v (.bool false)), .t (.v (.bool false)), AV.nl]) rfl (.push qL qN) ?_ | (refine kL 1 rfl ?_; (first | refine A_as rfl rfl rfl rfl ?_ | refine A_move rfl rfl _ (.inr rfl) (y := .sl _ _ _) rfl ?_ | refine A_move rfl rfl _ (.inr rfl) (y := .nl) rfl ?_)) | refine A_alloc rfl rfl 50 rfl inf50 (cs := [.t (.v (.int .i64 0)), .t (.v (.int .i64 0)), .t (.v (.int .i64 0)), .t (.v (.int .i64 0))]) rfl (.push qL qN) ?_ | (refine kL 0 rfl ?_; (first | refine A_mt rfl rfl rfl rfl ?_ | refine A_move rfl rfl _ (.inl rfl) (y := .ln _) rfl ?_ | refine A_move rfl rfl _ (.inl rfl) (y := .tup _) rfl ?_)) | (refine kL 3562 rfl ?_; refine A_cl rfl rfl Try.func111 rfl (cF) ?_) | (refine kL 18 rfl ?_; (first | refine A_extract rfl rfl _ 0 rfl rfl rfl ?_ | refine A_extract rfl rfl _ 1 rfl rfl rfl ?_ | refine A_extract rfl rfl _ 2 rfl rfl rfl ?_)) | refine A_load_agg rfl rfl 66 _ rfl ud66 rfl inf66 rfl rfl (us' := [_, _, _, _, _]) rfl rfl ?_ | (refine kL 2986 rfl ?_; refine A_cl rfl rfl Try.func93 rfl (cR) ?_) | refine A_not rfl rfl _ _ rfl rfl ?_ | (refine kL 1674 rfl ?_; refine A_cl rfl rfl Try.func52 rfl (hcc) ?_) | (refine kL 1610 rfl ?_; refine A_cl rfl rfl Try.func50 rfl (cW) ?_) | (refine kL 1614 rfl ?_; refine A_build rfl rfl 50 _ rfl ud50 inf50 [(0, 1), (1, 1), (2, 1), (3, 1)] (by kernel_rfl) (zs := [.t (.v (.int .i64 0)), .t (.v (.int .i64 0)), .t (.v (.int .i64 0)), .t (.v (.int .i64 0))]) rfl (.cons rfl .nil) (cs := [_, _, _, _]) rfl ?_) | refine A_store rfl rfl 66 _ _ rfl inf66 rfl rfl rfl rfl (Nat.le_of_ble_eq_true rfl) qN qN ?_ | refine A_store rfl rfl 50 _ _ rfl inf50 rfl rfl rfl rfl (Nat.le_of_ble_eq_true rfl) qN qN ?_ | (refine kL 105 rfl ?_; (first | refine A_cmp (d := 38) rfl rfl (c := false) .eql 3 3 _ _ rfl rfl rfl (by exact congrArg some (decide_eq_false (by (try (dsimp only; fail_if_success done)); omega))) ?_ | refine A_cmp (d := 55) rfl rfl (c := true) .eql 3 3 _ _ rfl rfl rfl (by exact congrArg some (decide_eq_true (by (try (dsimp only; fail_if_success done)); omega))) ?_ | refine A_cmp (d := 60) rfl rfl (c := false) .gtr 3 3 _ _ rfl rfl rfl (by exact congrArg some (decide_eq_false (by (try (dsimp only; fail_if_success done)); omega))) ?_)) | refine A_field rfl rfl 66 _ 4 rfl ud66 rfl inf22 (by decide) 4 rfl rfl ?_ | refine A_pick rfl rfl _ _ _ rfl rfl rfl rfl rfl ?_ | refine A_load rfl rfl 22 _ rfl ud22 rfl rfl rfl rfl ?_ | refine A_len rfl rfl 22 _ rfl ud22 rfl ?_ | refine AL.nil ?_ | refine AL.skip rfl rfl ?_)) | with_reducible refine AW.at_region _ ?_ | (with_reducible (first | refine wk0 ?_ | refine wk1 ?_ | refine wk2 ?_ | refine wk5 ?_ | refine wk9 ?_ | refine wkb ?_ | refine wkd ?_)) | refine kcf rfl ?_)
            all_goals first | (exfalso; omega) | (exact Fin.q Try.results112 (.cons (.agg rfl rfl ud66 rfl inf66 (us := [_, _, _, _, _]) rfl rfl) (.cons (.tmp rfl) (.cons (.agg rfl rfl ud50 rfl inf50 (us := [_, _, _, _]) rfl rfl) (.cons (.tmp rfl) .nil)))) [3, 4])
          unfold gA
          have h0' := Cd.frz h0 0 rfl (by repeat' (first | exact FzL.nil | apply FzL.cons | exact FzR.nlt | exact FzR.all (by first | rfl | (simp <;> fail) | (simp; omega)) | exact FzR.sl (by first | exact Nat.le_refl _ | (simp <;> fail) | (simp; omega)) | apply FzR.aggL | exact FzR.same _)) rfl; have h0'' := Cd.frz h0' 1 rfl (by repeat' (first | exact FzL.nil | apply FzL.cons | exact FzR.nlt | exact FzR.all (by first | rfl | (simp <;> fail) | (simp; omega)) | exact FzR.sl (by first | exact Nat.le_refl _ | (simp <;> fail) | (simp; omega)) | apply FzR.aggL | exact FzR.same _)) rfl; exact Cd.drop h0'' rfl
      · rw [hok] at cF
        rw [Bool.or_true, if_pos rfl]
        have cV := cV (.inr hok)
        unfold gA at cV ⊢
        refine Cd.enter' Try.func112 rfl Try.ntmps112 rfl ?_
        repeat' (first | ((with_reducible refine kAL ?_); (first | refine A_box rfl rfl 66 _ rfl rfl (.push qL qN) ?_ | refine A_alloc rfl rfl 66 rfl inf66 (cs := [.t (.v (.int .i64 0)), .t (.v (.int .i64 0)), .t (.v (.bool false)), .t (.v (.bool false)), AV.nl]) rfl (.push qL qN) ?_ | (refine kL 1 rfl ?_; (first | refine A_as rfl rfl rfl rfl ?_ | refine A_move rfl rfl _ (.inr rfl) (y := .nl) rfl ?_)) | refine A_alloc rfl rfl 50 rfl inf50 (cs := [.t (.v (.int .i64 0)), .t (.v (.int .i64 0)), .t (.v (.int .i64 0)), .t (.v (.int .i64 0))]) rfl (.push qL qN) ?_ | (refine kL 0 rfl ?_; (first | refine A_mt rfl rfl rfl rfl ?_ | refine A_move rfl rfl _ (.inl rfl) (y := .ln _) rfl ?_ | refine A_move rfl rfl _ (.inl rfl) (y := .tup _) rfl ?_)) | (refine kL 3562 rfl ?_; refine A_cl rfl rfl Try.func111 rfl (cF) ?_) | (refine kL 18 rfl ?_; (first | refine A_extract rfl rfl _ 0 rfl rfl rfl ?_ | refine A_extract rfl rfl _ 1 rfl rfl rfl ?_ | refine A_extract rfl rfl _ 2 rfl rfl rfl ?_ | refine A_extract rfl rfl _ 3 rfl rfl rfl ?_)) | refine A_load_agg rfl rfl 66 _ rfl ud66 rfl inf66 rfl rfl (us' := [_, _, _, _, _]) rfl rfl ?_ | (refine kL 2986 rfl ?_; refine A_cl rfl rfl Try.func93 rfl (cR) ?_) | refine A_not rfl rfl _ _ rfl rfl ?_ | refine A_store rfl rfl 66 _ _ rfl inf66 rfl rfl rfl rfl (Nat.le_of_ble_eq_true rfl) qN qN ?_ | refine A_store rfl rfl 50 _ _ rfl inf50 rfl rfl rfl rfl (Nat.le_of_ble_eq_true rfl) qN qN ?_ | (refine kL 105 rfl ?_; (first | refine A_cmp (d := 38) rfl rfl (c := false) .eql 3 3 _ _ rfl rfl rfl (by exact congrArg some (decide_eq_false (by (try (dsimp only; fail_if_success done)); omega))) ?_ | refine A_cmp (d := 55) rfl rfl (c := true) .eql 3 3 _ _ rfl rfl rfl (by exact congrArg some (decide_eq_true (by (try (dsimp only; fail_if_success done)); omega))) ?_ | refine A_cmp (d := 60) rfl rfl .gtr 3 3 _ _ rfl rfl rfl rfl ?_)) | refine A_field rfl rfl 66 _ 4 rfl ud66 rfl inf22 (by decide) 4 rfl rfl ?_ | refine A_pick rfl rfl _ _ _ rfl rfl rfl rfl rfl ?_ | refine A_load rfl rfl 22 _ rfl ud22 rfl rfl rfl rfl ?_ | refine A_len rfl rfl 22 _ rfl ud22 rfl ?_ | (refine kL 3914 rfl ?_; refine A_cl rfl rfl Try.func122 rfl (cV) ?_) | refine AL.nil ?_ | refine AL.skip rfl rfl ?_ | (refine AL.split 61 rfl (fun hb => ?_) (fun hb => ?_) <;> (try simp only [decide_eq_true_eq, decide_eq_false_iff_not, Bool.not_eq_true', Bool.not_eq_false'] at hb) <;> (first | refine AL.skip rfl rfl ?_ | refine AL.need rfl ?_)))) | with_reducible refine AW.at_region _ ?_ | (with_reducible (first | refine wk0 ?_ | refine wk1 ?_ | refine wk2 ?_ | refine wk3 ?_ | refine wk6 ?_ | refine wk9 ?_ | refine wkb ?_)) | refine kct rfl ?_ | refine kcf rfl ?_)
        all_goals first | (exfalso; omega) | (exact Fin.q Try.results112 (.cons (.agg rfl rfl ud66 rfl inf66 (us := [_, _, _, _, _]) rfl rfl) (.cons (.tmp rfl) (.cons (.agg rfl rfl ud50 rfl inf50 (us := [_, _, _, _]) rfl rfl) (.cons (.tmp rfl) .nil)))) [])
end Go.Proofs.Ytphcebioiipdpaa


namespace Go.Proofs.Ytphcebioiipdpaa
set_option linter.unusedVariables false
set_option linter.unusedSimpArgs false
set_option linter.unnecessarySimpa false
open Go.RowKit
set_option maxHeartbeats 32000000
attribute [local irreducible] AL AW RG Fin C Cd Cio thenQ blockQ retQ
set_option maxRecDepth 100000
attribute [local simp] putW_len cutW_len
end Go.Proofs.Ytphcebioiipdpaa


namespace Go.Proofs.Ytphcebioiipdpaa
set_option linter.unusedVariables false
set_option linter.unusedSimpArgs false
set_option linter.unnecessarySimpa false
open Go.RowKit
set_option maxHeartbeats 32000000
attribute [local irreducible] AL AW RG Fin C Cd Cio thenQ blockQ retQ
set_option maxRecDepth 100000
attribute [local simp] putW_len cutW_len
def onS (l : List DWait) (h : Int) : List Int := isort (tick l) (onK l h l.length)
theorem onS_b (l : List DWait) (h : Int) : (onS l h).length = (onK l h l.length).length ∧ (onS l h).length ≤ l.length ∧ ∀ z ∈ onS l h, 0 ≤ z ∧ z < l.length := by
  have := onK_b l h l.length
  refine ⟨isort_len _, by unfold onS; rw [isort_len]; omega, fun z hz => ?_⟩
  have := this.2 z (isort_mem.1 hz); omega
def shT (l : List DWait) (h : Int) (t : Int) : DTold := ⟨t, ⟨(l.getD t.toNat default).seq, ixF (isH h) (l.getD t.toNat default).cases, 9, 0⟩⟩
structure SG where
  c : DChan
  l : List DWait
  e : Int
  told : List DTold
  deriving DecidableEq
def shutG (c : DChan) (h : Int) (l : List DWait) : SG := if c.used && !c.closed then ⟨⟨c.gen, c.cap, true, true, c.buf⟩, (onS l h).foldl cutW l, 0, (onS l h).map (shT l h)⟩ else ⟨c, l, 9, []⟩
def sA (g : SG) : AV := .tup [.agg [i64 g.c.gen, i64 g.c.cap, bo g.c.used, bo g.c.closed, .t (.lst (g.c.buf.map tI))], .t (.lst (g.l.map tWt)), i64 g.e, .t (.lst (g.told.map tTd))]
theorem shut1_c (h : Int) (c : DCase) : Cd Try.prog 114 [.agg ((tCs c).map .t), .lp [i64 h]] (bo (isH h c)) [] := by
  obtain ⟨a, b, v⟩ := c
  by_cases p2 : b = h
  all_goals
    refine Cd.enter' Try.func114 rfl Try.ntmps114 rfl ?_
    repeat' (first | ((with_reducible refine kAL ?_); (first | refine A_box rfl rfl 45 _ rfl rfl (.push qL qN) ?_ | refine A_as rfl rfl rfl rfl ?_ | refine A_field rfl rfl 45 _ 1 rfl ud45 rfl inf3 (by decide) 1 rfl rfl ?_ | (refine kL 98 rfl ?_; (first | refine A_load rfl rfl 3 _ rfl ud3 rfl rfl rfl rfl ?_ | refine A_load_lp rfl rfl 3 _ rfl ud3 rfl rfl rfl ?_)) | (refine kL 105 rfl ?_; (first | refine A_cmp (d := 7) rfl rfl (c := true) .eql 3 3 _ _ rfl rfl rfl (by exact congrArg some (decide_eq_true (by (try (dsimp only; fail_if_success done)); omega))) ?_ | refine A_cmp (d := 7) rfl rfl (c := false) .eql 3 3 _ _ rfl rfl rfl (by exact congrArg some (decide_eq_false (by (try (dsimp only; fail_if_success done)); omega))) ?_)) | refine AL.nil ?_)) | with_reducible refine AW.at_region _ ?_ | (with_reducible (first | refine wk0 ?_ | refine wk2 ?_ | refine wk9 ?_ | refine wkb ?_)))
    all_goals first | (exfalso; omega) | (refine Fin.q Try.results114 (.cons (.tmp rfl) .nil) [] (hr := (.t ?_)))
    all_goals first | (simp [isH, *]; done) | skip
structure ShS where
  q : Nat
  k : Nat
  R : List DWait
  T : List DTold
set_option maxHeartbeats 16000000 in
theorem shut_c (c : DChan) (h : Int) (l : List DWait) (hl : okW l) (hb : c.buf.length ≤ 17592186043904) (cO : Cd Try.prog 85 [.ln (l.map tWt), i64 h] (.sl 0 0 (onS l h).length) [.row 0 3 1 ((onS l h).map tI)]) :
    Cd Try.prog 96 [aC c, i64 h, .ln (l.map tWt)] (sA (shutG c h l)) [] := by
  have hl0 := hl.1
  have h1 : (l.map tWt).length = l.length := List.length_map _
  have hcc := ccopy_c c (by omega)
  obtain ⟨-, hSl, hSm⟩ := onS_b l h
  unfold shutG
  generalize onS l h = S at cO hSl hSm
  have h2 : (S.map tI).length = S.length := List.length_map _
  obtain ⟨g, cap, used, closed, buf⟩ := c
  dsimp only [aC] at hcc hb ⊢
  by_cases hu : used = true ∧ closed = false
  · obtain ⟨rfl, rfl⟩ := hu
    simp only [Bool.not_false, Bool.and_self, if_true]
    have h0 : Cd Try.prog 96 [.agg [i64 g, i64 cap, bo true, bo false, .ln (buf.map tI)], i64 h, .ln (l.map tWt)] (.tup [.agg [i64 g, i64 cap, bo true, bo true, .sl 0 0 buf.length], .t (.lst ((S.foldl cutW l).map tWt)), i64 0, .sl 1 0 S.length]) [.row 0 3 1 (buf.map tI), .row 0 124 5 ((S.map (shT l h)).map tTd)] := by
      refine Cd.enter' Try.func96 rfl Try.ntmps96 rfl ?_
      repeat' (first | ((with_reducible refine kAL ?_); (first | (refine kL 1610 rfl ?_; (refine A_cl (d := 19) rfl rfl Try.func50 rfl (wcopy_c l hl) ?_; (try refine AL.wk (Wk.freeze 4 rfl 19 rfl (by first | exact .all (by first | (simp <;> fail) | fail) | fail) qN) ?_))) | refine A_box rfl rfl 66 _ rfl rfl (.push qL qN) ?_ | refine A_box rfl rfl 3 _ rfl rfl (.push qL qN) ?_ | refine A_alloc rfl rfl 66 rfl inf66 (cs := [.t (.v (.int .i64 0)), .t (.v (.int .i64 0)), .t (.v (.bool false)), .t (.v (.bool false)), AV.nl]) rfl (.push qL qN) ?_ | (refine kL 1 rfl ?_; (first | refine A_as rfl rfl rfl rfl ?_ | refine A_move rfl rfl _ (.inr rfl) (y := .nl) rfl ?_)) | refine A_load_agg rfl rfl 66 _ rfl ud66 rfl inf66 rfl rfl (us' := [_, _, _, _, _]) rfl rfl ?_ | (refine kL 1674 rfl ?_; refine A_cl rfl rfl Try.func52 rfl (hcc) ?_) | (refine kL 0 rfl ?_; (first | refine A_mt rfl rfl rfl rfl ?_ | refine A_move rfl rfl _ (.inl rfl) (y := .ln _) rfl ?_)) | refine A_store rfl rfl 66 _ _ rfl inf66 rfl rfl rfl rfl (Nat.le_of_ble_eq_true rfl) qN qN ?_ | (refine kL 2116 rfl ?_; (first | refine A_field rfl rfl 66 _ 2 rfl ud66 rfl inf4 (by decide) 2 rfl rfl ?_ | refine A_field rfl rfl 66 _ 3 rfl ud66 rfl inf4 (by decide) 3 rfl rfl ?_)) | refine A_load rfl rfl 4 _ rfl ud4 rfl rfl rfl rfl ?_ | refine A_not rfl rfl _ _ rfl rfl ?_ | refine A_pick rfl rfl _ _ _ rfl rfl rfl rfl rfl ?_ | refine A_store rfl rfl 4 _ _ rfl inf4 rfl rfl rfl rfl (Nat.le_of_ble_eq_true rfl) qN qN ?_ | refine A_load rfl rfl 3 _ rfl ud3 rfl rfl rfl rfl ?_ | (refine kL 2730 rfl ?_; refine A_cl rfl rfl Try.func85 rfl (cO) ?_) | refine A_len rfl rfl 22 _ rfl ud22 rfl ?_ | refine AL.nil ?_)) | with_reducible refine AW.at_region _ ?_ | (with_reducible (first | refine wk0 ?_ | refine wk1 ?_ | refine wk2 ?_ | refine wkd ?_)) | refine kcf rfl ?_)
      all_goals first | (exfalso; omega) | skip
      refine AW.wk (Wk.own 12 rfl 124 5 (.push rfl rfl)) ?_
      refine AW.loopP (fun (x : ShS) => x.q ≤ S.length ∧ x.R = (S.take x.q).foldl cutW l ∧ okW x.R ∧ x.R.length = l.length ∧ x.T = (S.take x.q).map (shT l h)) (fun (x : ShS) => (pu (pu (pu (pu (pu (pu (pu (pu (pu (fun _ => .any) 2 (.ln (l.map tWt))) 4 (.ptr 1 0)) 6 (.ptr 2 0)) 10 (.ptr 5 0)) 11 (.t (.lst (x.R.map tWt)))) 12 (.sl 7 x.k x.q)) 32 (.sl 6 0 S.length)) 33 (i64 S.length)) 34 (i64 x.q))) (fun (x : ShS) => [.box 66 [i64 g, i64 cap, bo true, bo false, .ln (buf.map tI)], .box 3 [i64 h], .box 66 [i64 0, i64 0, bo false, bo false, .nl], .row 0 3 1 (buf.map tI), .gone 0, .box 66 [i64 g, i64 cap, bo true, bo true, .sl 3 0 buf.length], .row 0 3 1 (S.map tI), .row x.k 124 5 (x.T.map tTd)]) (fun (x : ShS) => S.length - x.q) (⟨0, 0, l, []⟩) ?_ ?_ ?_
      · exact ⟨Nat.zero_le _, rfl, hl, rfl, rfl⟩
      · exact Wk.cq 8
      · rintro ⟨q, k, R, T⟩ ⟨h3, h4, h5, h6, h7⟩
        dsimp only at h3 h4 h5 h6 h7 ⊢
        have h8 : T.length = q := by rw [h7, List.length_map, List.length_take]; omega
        have h9 : (T.map tTd).length = q := by rw [List.length_map, h8]
        by_cases hq : q < S.length
        · obtain ⟨z, hz⟩ : ∃ z, S[q]? = some z := ⟨_, List.getElem?_eq_getElem hq⟩
          have hzm := hSm z (List.mem_of_getElem? hz)
          obtain ⟨n, rfl⟩ : ∃ n : Nat, z = n := ⟨z.toNat, by omega⟩
          obtain ⟨w, hw⟩ : ∃ w, l[n]? = some w := ⟨_, List.getElem?_eq_getElem (by omega)⟩
          have hsh : shT l h n = ⟨n, ⟨w.seq, ixF (isH h) w.cases, 9, 0⟩⟩ := by unfold shT; rw [Int.toNat_natCast, getD_of hw]
          have cX := wcut_c R n h5
          rw [h6] at cX
          have cI := idxF_c 114 [] [.lp [i64 h]] (isH h) (fun c => ⟨_, _, [], [.lp [i64 h]], rfl, Try.func114, by kernel_rfl, by kernel_rfl, fun _ => .nil, fun _ => .cons (.lpL (.cons (.t _) .nil)) .nil, shut1_c h c⟩) rfl w.cases (by have := hl.at hw; omega)
          have cE := ended_c l n (ixF (isH h) w.cases) 9 0 w hw
          repeat' (first | ((with_reducible refine kAL ?_); (first | (refine kL 18 rfl ?_; (first | (refine A_extract (d := 56) rfl rfl _ 0 rfl rfl rfl ?_; (try refine AL.wk (Wk.freeze 9 rfl 56 rfl (by exact .all (by (simp; omega))) qN) ?_)) | refine A_extract rfl rfl _ 1 rfl rfl rfl ?_)) | (refine kL 1 rfl ?_; (first | refine A_as rfl rfl rfl rfl ?_ | refine A_move rfl rfl _ (.inr rfl) (y := .sl _ _ _) rfl ?_)) | (refine kL 0 rfl ?_; (first | refine A_mt rfl rfl rfl rfl ?_ | refine A_move rfl rfl _ (.inl rfl) (y := .sl _ _ _) rfl ?_ | refine A_move rfl rfl _ (.inl rfl) (y := .ln _) rfl ?_ | refine A_move rfl rfl _ (.inl rfl) (y := .tup _) rfl ?_)) | refine A_load_rp rfl rfl 3 _ rfl ud3 rfl rfl rfl (by exact map_get (by assumption)) rfl ?_ | (refine kL 12 rfl ?_; refine A_append rfl rfl _ _ 95 rfl ud95 inf124 rfl rfl rfl (by (simp; omega)) (by exact .all rfl (by rfl)) qB qB (by exact app_one (f := tTd) (x := ⟨n, ⟨w.seq, ixF (isH h) w.cases, 9, 0⟩⟩) (by omega)) qN qS ?_) | (refine kL 105 rfl ?_; (first | refine A_cmp (d := 35) rfl rfl (c := true) .lss 3 3 _ _ rfl rfl rfl (by exact congrArg some (decide_eq_true (by (try (dsimp only; fail_if_success done)); omega))) ?_ | refine A_add rfl rfl 3 3 _ _ rfl rfl rfl (by exact wi) ?_)) | (refine kL 710 rfl ?_; refine A_idx_sl rfl rfl 22 _ _ rfl ud22 inf3 rfl rfl (by first | (simp <;> fail) | fail) rfl (by omega) _ (by with_reducible exact Int.toNat_natCast _) (by omega) ?_) | (refine kL 838 rfl ?_; refine A_idx rfl rfl 26 _ _ rfl ud26 inf43 (by decide) (by exact .inl rfl) rfl (by omega) _ (by with_reducible exact Int.toNat_natCast _) (by exact map_get (by assumption)) rfl (cs' := [_, _, _, _]) rfl ?_) | refine A_field rfl rfl 43 _ 3 rfl ud43 rfl inf30 (by decide) 3 rfl rfl ?_ | refine A_load_lp rfl rfl 30 _ rfl ud30 rfl rfl rfl ?_ | (refine kL 21 rfl ?_; refine A_fn rfl rfl _ _ _ rfl .nil (.cons rfl .nil) ?_) | (refine kL 3338 rfl ?_; refine A_cl rfl rfl Try.func104 rfl (cI) ?_) | (refine kL 3690 rfl ?_; refine A_cl rfl rfl Try.func115 rfl (cE) ?_) | (refine kL 3055 rfl ?_; refine A_lit rfl rfl 95 1 _ rfl ud95 inf124 (.cons rfl .nil) (els := [[_, _, _, _, _]]) rfl (by exact (rfl : _ = List.map tTd [⟨n, ⟨w.seq, ixF (isH h) w.cases, 9, 0⟩⟩])) rfl (Nat.ne_of_beq_eq_false rfl) (Nat.le_of_ble_eq_true rfl) (Nat.le_of_ble_eq_true rfl) (.push qL qN) ?_) | (refine kL 3146 rfl ?_; refine A_cl rfl rfl Try.func98 rfl (cX) ?_) | refine AL.nil ?_)) | with_reducible refine AW.at_region _ ?_ | (with_reducible (first | refine wk0 ?_ | refine wk1 ?_ | refine wk2 ?_ | refine wk5 ?_ | refine wkd ?_)) | refine kct rfl ?_)
          all_goals first | (exfalso; omega) | skip
          refine ⟨⟨q + 1, k + 1, cutW R n, T ++ [⟨n, ⟨w.seq, ixF (isH h) w.cases, 9, 0⟩⟩]⟩, ⟨by dsimp only; omega, by dsimp only; rw [List.take_add_one, hz, List.foldl_append, ← h4]; rfl, okW_cut h5, by dsimp only; rw [cutW_len, h6], by dsimp only; rw [List.take_add_one, hz, List.map_append, ← h7, ← hsh]; rfl⟩, by dsimp only; omega, ?_⟩
          exact Wk.cq 8
        · have e : q = S.length := by omega
          subst e
          rw [List.take_length] at h4 h7
          subst h4 h7
          repeat' (first | ((with_reducible refine kAL ?_); (first | (refine kL 1 rfl ?_; (first | refine A_as rfl rfl rfl rfl ?_ | refine A_move rfl rfl _ (.inr rfl) (y := .sl _ _ _) rfl ?_)) | refine A_load_agg rfl rfl 66 _ rfl ud66 rfl inf66 rfl rfl (us' := [_, _, _, _, _]) rfl rfl ?_ | (refine kL 0 rfl ?_; (first | refine A_mt rfl rfl rfl rfl ?_ | refine A_move rfl rfl _ (.inl rfl) (y := .sl _ _ _) rfl ?_)) | refine A_store rfl rfl 66 _ _ rfl inf66 rfl rfl rfl rfl (Nat.le_of_ble_eq_true rfl) qN qN ?_ | refine A_cmp (d := 35) rfl rfl (c := false) .lss 3 3 _ _ rfl rfl rfl (by exact congrArg some (decide_eq_false (by (try (dsimp only; fail_if_success done)); omega))) ?_ | refine AL.nil ?_)) | with_reducible refine AW.at_region _ ?_ | (with_reducible (first | refine wk0 ?_ | refine wk2 ?_ | refine wk4 ?_ | refine wk7 ?_ | refine wk9 ?_ | refine wkb ?_ | refine wkc ?_)) | refine kcf rfl ?_)
          all_goals first | (exfalso; omega) | (exact Fin.q Try.results96 (.cons (.agg rfl rfl ud66 rfl inf66 (us := [_, _, _, _, _]) rfl rfl) (.cons (.tmp rfl) (.cons (.tmp rfl) (.cons (.tmp rfl) .nil)))) [3, 7])
    unfold sA
    have h0' := Cd.frz h0 0 rfl (by repeat' (first | exact FzL.nil | apply FzL.cons | exact FzR.nlt | exact FzR.all (by first | rfl | (simp <;> fail) | (simp; omega)) | exact FzR.sl (by first | exact Nat.le_refl _ | (simp <;> fail) | (simp; omega)) | apply FzR.aggL | exact FzR.same _)) rfl; have h0'' := Cd.frz h0' 1 rfl (by repeat' (first | exact FzL.nil | apply FzL.cons | exact FzR.nlt | exact FzR.all (by first | rfl | (simp <;> fail) | (simp; omega)) | exact FzR.sl (by first | exact Nat.le_refl _ | (simp <;> fail) | (simp; omega)) | apply FzR.aggL | exact FzR.same _)) rfl; exact Cd.drop h0'' rfl
  · have e : (used && !closed) = false := by cases used <;> cases closed <;> simp_all
    rw [e, if_neg (by simp)]
    have h0 : Cd Try.prog 96 [.agg [i64 g, i64 cap, bo used, bo closed, .ln (buf.map tI)], i64 h, .ln (l.map tWt)] (.tup [.agg [i64 g, i64 cap, bo used, bo closed, .sl 0 0 buf.length], .sl 1 0 l.length, i64 9, .nl]) [.row 0 3 1 (buf.map tI), .row 0 43 4 (l.map tWt)] := by
      cases used <;> cases closed
      all_goals first | (exact absurd ⟨rfl, rfl⟩ hu) | skip
      all_goals
        refine Cd.enter' Try.func96 rfl Try.ntmps96 rfl ?_
        repeat' (first | ((with_reducible refine kAL ?_); (first | refine A_box rfl rfl 66 _ rfl rfl (.push qL qN) ?_ | refine A_box rfl rfl 3 _ rfl rfl (.push qL qN) ?_ | refine A_alloc rfl rfl 66 rfl inf66 (cs := [.t (.v (.int .i64 0)), .t (.v (.int .i64 0)), .t (.v (.bool false)), .t (.v (.bool false)), AV.nl]) rfl (.push qL qN) ?_ | (refine kL 1 rfl ?_; (first | refine A_as rfl rfl rfl rfl ?_ | refine A_move rfl rfl _ (.inr rfl) (y := .sl _ _ _) rfl ?_ | refine A_move rfl rfl _ (.inr rfl) (y := .nl) rfl ?_)) | refine A_load_agg rfl rfl 66 _ rfl ud66 rfl inf66 rfl rfl (us' := [_, _, _, _, _]) rfl rfl ?_ | (refine kL 1674 rfl ?_; refine A_cl rfl rfl Try.func52 rfl (hcc) ?_) | (refine kL 0 rfl ?_; (first | refine A_mt rfl rfl rfl rfl ?_ | refine A_move rfl rfl _ (.inl rfl) (y := .sl _ _ _) rfl ?_ | refine A_move rfl rfl _ (.inl rfl) (y := .ln _) rfl ?_)) | (refine kL 1610 rfl ?_; refine A_cl rfl rfl Try.func50 rfl (wcopy_c l hl) ?_) | refine A_store rfl rfl 66 _ _ rfl inf66 rfl rfl rfl rfl (Nat.le_of_ble_eq_true rfl) qN qN ?_ | (refine kL 2116 rfl ?_; (first | refine A_field rfl rfl 66 _ 2 rfl ud66 rfl inf4 (by decide) 2 rfl rfl ?_ | refine A_field rfl rfl 66 _ 3 rfl ud66 rfl inf4 (by decide) 3 rfl rfl ?_)) | refine A_load rfl rfl 4 _ rfl ud4 rfl rfl rfl rfl ?_ | refine A_not rfl rfl _ _ rfl rfl ?_ | refine A_pick rfl rfl _ _ _ rfl rfl rfl rfl rfl ?_ | refine AL.nil ?_ | refine AL.skip rfl rfl ?_)) | with_reducible refine AW.at_region _ ?_ | (with_reducible (first | refine wk0 ?_ | refine wk2 ?_ | refine wk3 ?_ | refine wk9 ?_ | refine wkb ?_)) | refine kct rfl ?_)
        all_goals first | (exfalso; omega) | (exact Fin.q Try.results96 (.cons (.agg rfl rfl ud66 rfl inf66 (us := [_, _, _, _, _]) rfl rfl) (.cons (.tmp rfl) (.cons (.tmp rfl) (.cons (.tmp rfl) .nil)))) [3, 4])
    unfold sA
    have h0' := Cd.frz h0 0 rfl (by repeat' (first | exact FzL.nil | apply FzL.cons | exact FzR.nlt | exact FzR.all (by first | rfl | (simp <;> fail) | (simp; omega)) | exact FzR.sl (by first | exact Nat.le_refl _ | (simp <;> fail) | (simp; omega)) | apply FzR.aggL | exact FzR.same _)) rfl; have h0'' := Cd.frz h0' 1 rfl (by repeat' (first | exact FzL.nil | apply FzL.cons | exact FzR.nlt | exact FzR.all (by first | rfl | (simp <;> fail) | (simp; omega)) | exact FzR.sl (by first | exact Nat.le_refl _ | (simp <;> fail) | (simp; omega)) | apply FzR.aggL | exact FzR.same _)) rfl; exact Cd.drop h0'' rfl
def x1 : List DWait := [⟨true, 0, 3, [⟨2, 8, 0⟩]⟩]
def y1 : DChan := ⟨1, 0, true, false, []⟩
end Go.Proofs.Ytphcebioiipdpaa


namespace Go.Proofs.Ytphcebioiipdpaa
set_option linter.unusedVariables false
set_option linter.unusedSimpArgs false
set_option linter.unnecessarySimpa false
open Go.RowKit
set_option maxHeartbeats 32000000
attribute [local irreducible] AL AW RG Fin C Cd Cio thenQ blockQ retQ
set_option maxRecDepth 100000
attribute [local simp] putW_len cutW_len
theorem doG_all (c : DChan) (h : Int) (l : List DWait) (d v : Int) :
    ((doG c h l d v).told = [] ∧ (doG c h l d v).l = l ∧ ((doG c h l d v).r.code = 0 ∨ (doG c h l d v).c.buf.length = c.buf.length) ∧ ((doG c h l d v).c.buf.length ≤ c.buf.length + 1 ∧ c.buf.length ≤ (doG c h l d v).c.buf.length + 1)) ∨
    ∃ (t m : Nat) (w : DWait) (z : Int), (d = 1 ∨ d = 2) ∧ fir l (3 - d) h = ⟨t, m, true⟩ ∧ l[t]? = some w ∧ w.on = true ∧ (doG c h l d v).told = [⟨t, ⟨w.seq, m, 0, z⟩⟩] ∧ (doG c h l d v).l = l.set t w0 ∧ (doG c h l d v).c.buf.length = c.buf.length ∧ (doG c h l d v).r.code = 0 := by
  unfold doG
  cases hr : rdyC c h l d
  · left; rw [if_neg (by simp)]; exact ⟨rfl, rfl, .inr rfl, by dsimp only; omega⟩
  · rw [if_pos rfl]
    rcases rdy_d hr with rfl | rfl
    · rw [if_pos rfl]
      cases hc : c.closed
      · rw [if_neg (by simp)]
        unfold sendG
        cases hk : (fir l 2 h).ok
        · left; rw [if_neg (by simp)]; exact ⟨rfl, rfl, .inl rfl, by simp only [chB, List.length_append, List.length_singleton]; omega⟩
        · right
          obtain ⟨t, m, w, k, e1, e2, hw, hon, hcc, e3, e4⟩ := fir_ok hk
          rw [if_pos rfl]
          refine ⟨t, m, w, v, .inl rfl, ?_, hw, hon, ?_, ?_, rfl, rfl⟩
          · show fir l 2 h = _
            generalize fir l 2 h = F at e1 e2 hk
            obtain ⟨a, b, o⟩ := F
            dsimp only at e1 e2 hk
            rw [e1, e2, hk]
          · dsimp only; rw [e1, e2]; unfold thW; rw [e1, Int.toNat_natCast, getD_of hw]
          · dsimp only; rw [e1]; exact cutW_yes (cutOk_yes hw hon)
      · left; rw [if_pos rfl]; exact ⟨rfl, rfl, .inr rfl, by dsimp only; omega⟩
    · rw [if_neg (by decide)]
      cases hp : (decide (0 < (c.buf.length : Int)) || (fir l 1 h).ok)
      · left; rw [if_neg (by simp)]; exact ⟨rfl, rfl, .inr rfl, by dsimp only; omega⟩
      · rw [if_pos rfl]
        unfold recvG
        cases hk : (fir l 1 h).ok
        · left; rw [if_neg (by simp)]; exact ⟨rfl, rfl, .inl rfl, by simp only [chB, List.length_drop]; omega⟩
        · right
          obtain ⟨t, m, w, k, e1, e2, hw, hon, hcc, e3, e4⟩ := fir_ok hk
          rw [if_pos rfl]
          refine ⟨t, m, w, 0, .inr rfl, ?_, hw, hon, ?_, ?_, by simp [chB], rfl⟩
          · show fir l 1 h = _
            generalize fir l 1 h = F at e1 e2 hk
            obtain ⟨a, b, o⟩ := F
            dsimp only at e1 e2 hk
            rw [e1, e2, hk]
          · dsimp only; rw [e1, e2]; unfold thW; rw [e1, Int.toNat_natCast, getD_of hw]
          · dsimp only; rw [e1]; exact cutW_yes (cutOk_yes hw hon)
theorem doG_ok {c : DChan} {h : Int} {l : List DWait} {d v : Int} (hl : okW l) : okW (doG c h l d v).l ∧ (doG c h l d v).l.length = l.length ∧ (doG c h l d v).c.buf.length ≤ c.buf.length + 1 ∧ (doG c h l d v).told.length ≤ 1 := by
  rcases doG_all c h l d v with ⟨h1, h2, h3, h4⟩ | ⟨t, m, w, z, _, _, hw, _, h1, h2, h3, _⟩
  · rw [h1, h2]; exact ⟨hl, rfl, h4.1, by simp⟩
  · rw [h1, h2]; refine ⟨⟨by simp; exact hl.1, fun x hx => ?_⟩, by simp, by omega, by simp⟩
    rcases List.mem_or_eq_of_mem_set hx with hx | rfl
    · exact hl.2 x hx
    · exact Nat.zero_le _
end Go.Proofs.Ytphcebioiipdpaa


namespace Go.Proofs.Ytphcebioiipdpaa
set_option linter.unusedVariables false
set_option linter.unusedSimpArgs false
set_option linter.unnecessarySimpa false
open Go.RowKit
set_option maxHeartbeats 32000000
attribute [local irreducible] AL AW RG Fin C Cd Cio thenQ blockQ retQ
set_option maxRecDepth 100000
structure OnS where
  j : Nat
  k : Nat
  n : Nat
  M : List Int
  put : Bool
end Go.Proofs.Ytphcebioiipdpaa


namespace Go.Proofs.Ytphcebioiipdpaa
set_option linter.unusedVariables false
set_option linter.unusedSimpArgs false
set_option linter.unnecessarySimpa false
open Go.RowKit
set_option maxHeartbeats 32000000
attribute [local irreducible] AL AW RG Fin C Cd Cio thenQ blockQ retQ
set_option maxRecDepth 100000
attribute [local simp] putW_len cutW_len
def noneW (l : List DWait) (h : Int) : Prop := ∀ (t : Nat) (w : DWait), l[t]? = some w → w.on = true → ∀ c ∈ w.cases, c.handle ≠ h
theorem cuts_get (S : List Int) : ∀ (l : List DWait) (t : Nat) (w : DWait), (S.foldl cutW l)[t]? = some w → (w.on = false) ∨ (l[t]? = some w ∧ ((t : Int) ∉ S)) := by
  induction S with
  | nil => intro l t w h; exact .inr ⟨h, by simp⟩
  | cons z S ih =>
    intro l t w h
    rw [List.foldl_cons] at h
    rcases ih _ t w h with h1 | ⟨h1, h2⟩
    · exact .inl h1
    · cases hc : cutOk l z
      · rw [cutW_no hc] at h1
        by_cases e : (t : Int) = z
        · subst e
          left
          have := of_decide_eq_false hc
          cases ho : w.on
          · rfl
          · exact absurd (show _ from ⟨by omega, by have := get_lt h1; omega, by rw [Int.toNat_natCast, getD_of h1]; exact ho⟩) this
        · exact .inr ⟨h1, by simp [h2, e]⟩
      · obtain ⟨n, rfl⟩ : ∃ n : Nat, z = n := ⟨z.toNat, by have := of_decide_eq_true hc; omega⟩
        rw [cutW_yes hc] at h1
        by_cases e : n = t
        · left
          rw [List.getElem?_set] at h1
          rw [if_pos e] at h1
          split at h1
          · cases h1; rfl
          · cases h1
        · rw [List.getElem?_set_ne e] at h1
          exact .inr ⟨h1, by simp only [List.mem_cons, not_or]; exact ⟨by omega, h2⟩⟩
theorem shut_none (l : List DWait) (h : Int) : noneW ((onS l h).foldl cutW l) h := by
  intro t w hw hon c hc hh
  rcases cuts_get _ _ _ _ hw with h1 | ⟨h1, h2⟩
  · rw [h1] at hon; cases hon
  · refine h2 (isort_mem.2 ?_)
    have : ∀ k, t < k → k ≤ l.length → (t : Int) ∈ onK l h k := by
      intro k
      induction k with
      | zero => intro h; omega
      | succ k ih =>
        intro hk hkl
        obtain ⟨a, ha⟩ : ∃ a, l[k]? = some a := ⟨_, List.getElem?_eq_getElem (by omega)⟩
        rw [onK_next ha]
        by_cases e : t = k
        · subst e
          rw [h1] at ha; cases ha
          obtain ⟨j, hj⟩ := List.getElem?_of_mem hc
          have := ixF_yes (isH h) hj (decide_eq_true hh)
          rw [hon, decide_eq_true this]; simp
        · have := ih (by omega) (by omega)
          split
          · simp [this]
          · exact this
    exact this l.length (get_lt h1) (Nat.le_refl _)
theorem cuts_ok (S : List Int) : ∀ (l : List DWait), okW l → okW (S.foldl cutW l) ∧ (S.foldl cutW l).length = l.length := by
  induction S with
  | nil => intro l hl; exact ⟨hl, rfl⟩
  | cons z S ih =>
    intro l hl
    have := ih (cutW l z) (okW_cut hl)
    rw [List.foldl_cons]
    exact ⟨this.1, by rw [this.2, cutW_len]⟩
theorem idle_c (c : DChan) (h : Int) (l : List DWait) (hl : okW l) : Cd Try.prog 91 [aC c, i64 h, .ln (l.map tWt)] (bo (c.used && c.closed && decide (c.buf = []) && decide (onS l h = []))) [] := by
  have cO := onAll_c l h hl
  rw [← isort_len (key := tick l)] at cO
  have h2 : (onS l h).length ≤ l.length := (onS_b l h).2.1
  have h3 := hl.1
  unfold onS at h2 ⊢
  generalize isort (tick l) (onK l h l.length) = S at cO h2 ⊢
  obtain ⟨g, cap, used, closed, buf⟩ := c
  have h1 : (buf.map tI).length = buf.length := List.length_map _
  dsimp only [aC]
  by_cases e1 : buf = []
  · subst e1
    by_cases e2 : S = []
    · subst e2
      cases used <;> cases closed
      all_goals
        refine Cd.enter' Try.func91 rfl Try.ntmps91 rfl ?_
        repeat' (first | ((with_reducible refine kAL ?_); (first | refine A_box rfl rfl 66 _ rfl rfl (.push qL qN) ?_ | refine A_as rfl rfl rfl rfl ?_ | (refine kL 2116 rfl ?_; (first | refine A_field rfl rfl 66 _ 2 rfl ud66 rfl inf4 (by decide) 2 rfl rfl ?_ | refine A_field rfl rfl 66 _ 3 rfl ud66 rfl inf4 (by decide) 3 rfl rfl ?_ | refine A_field rfl rfl 66 _ 4 rfl ud66 rfl inf22 (by decide) 4 rfl rfl ?_)) | refine A_load rfl rfl 4 _ rfl ud4 rfl rfl rfl rfl ?_ | (refine kL 0 rfl ?_; (first | refine A_mt rfl rfl rfl rfl ?_ | refine A_move rfl rfl _ (.inl rfl) (y := .ln _) rfl ?_)) | refine A_pick rfl rfl _ _ _ rfl rfl rfl rfl rfl ?_ | refine A_load rfl rfl 22 _ rfl ud22 rfl rfl rfl rfl ?_ | refine A_len rfl rfl 22 _ rfl ud22 rfl ?_ | (refine kL 105 rfl ?_; (first | refine A_cmp (d := 17) rfl rfl .eql 3 3 _ _ rfl rfl rfl rfl ?_ | refine A_cmp (d := 24) rfl rfl .eql 3 3 _ _ rfl rfl rfl rfl ?_)) | (refine kL 2730 rfl ?_; refine A_cl rfl rfl Try.func85 rfl (cO) ?_) | refine AL.nil ?_ | refine AL.skip rfl rfl ?_)) | with_reducible refine AW.at_region _ ?_ | (with_reducible (first | refine wk0 ?_ | refine wk2 ?_ | refine wk9 ?_ | refine wkb ?_)))
        all_goals first | (exfalso; omega) | (exact Fin.q Try.results91 (.cons (.tmp rfl) .nil) [])
    · have : 0 < S.length := List.length_pos_iff.2 e2
      rw [decide_eq_false e2]
      cases used <;> cases closed
      all_goals
        refine Cd.enter' Try.func91 rfl Try.ntmps91 rfl ?_
        repeat' (first | ((with_reducible refine kAL ?_); (first | refine A_box rfl rfl 66 _ rfl rfl (.push qL qN) ?_ | refine A_as rfl rfl rfl rfl ?_ | (refine kL 2116 rfl ?_; (first | refine A_field rfl rfl 66 _ 2 rfl ud66 rfl inf4 (by decide) 2 rfl rfl ?_ | refine A_field rfl rfl 66 _ 3 rfl ud66 rfl inf4 (by decide) 3 rfl rfl ?_ | refine A_field rfl rfl 66 _ 4 rfl ud66 rfl inf22 (by decide) 4 rfl rfl ?_)) | refine A_load rfl rfl 4 _ rfl ud4 rfl rfl rfl rfl ?_ | (refine kL 0 rfl ?_; (first | refine A_mt rfl rfl rfl rfl ?_ | refine A_move rfl rfl _ (.inl rfl) (y := .ln _) rfl ?_)) | refine A_pick rfl rfl _ _ _ rfl rfl rfl rfl rfl ?_ | refine A_load rfl rfl 22 _ rfl ud22 rfl rfl rfl rfl ?_ | refine A_len rfl rfl 22 _ rfl ud22 rfl ?_ | (refine kL 105 rfl ?_; (first | refine A_cmp (d := 24) rfl rfl (c := false) .eql 3 3 _ _ rfl rfl rfl (by exact congrArg some (decide_eq_false (by (try (dsimp only; fail_if_success done)); omega))) ?_ | refine A_cmp (d := 17) rfl rfl .eql 3 3 _ _ rfl rfl rfl rfl ?_)) | (refine kL 2730 rfl ?_; refine A_cl rfl rfl Try.func85 rfl (cO) ?_) | refine AL.nil ?_ | refine AL.skip rfl rfl ?_)) | with_reducible refine AW.at_region _ ?_ | (with_reducible (first | refine wk0 ?_ | refine wk2 ?_ | refine wk9 ?_ | refine wkb ?_)))
        all_goals first | (exfalso; omega) | (exact Fin.q Try.results91 (.cons (.tmp rfl) .nil) [])
  · have : 0 < buf.length := List.length_pos_iff.2 e1
    rw [decide_eq_false e1]
    cases used <;> cases closed
    all_goals
      refine Cd.enter' Try.func91 rfl Try.ntmps91 rfl ?_
      repeat' (first | ((with_reducible refine kAL ?_); (first | refine A_box rfl rfl 66 _ rfl rfl (.push qL qN) ?_ | refine A_as rfl rfl rfl rfl ?_ | (refine kL 2116 rfl ?_; (first | refine A_field rfl rfl 66 _ 2 rfl ud66 rfl inf4 (by decide) 2 rfl rfl ?_ | refine A_field rfl rfl 66 _ 3 rfl ud66 rfl inf4 (by decide) 3 rfl rfl ?_ | refine A_field rfl rfl 66 _ 4 rfl ud66 rfl inf22 (by decide) 4 rfl rfl ?_)) | refine A_load rfl rfl 4 _ rfl ud4 rfl rfl rfl rfl ?_ | refine A_mt rfl rfl rfl rfl ?_ | refine A_pick rfl rfl _ _ _ rfl rfl rfl rfl rfl ?_ | refine A_load rfl rfl 22 _ rfl ud22 rfl rfl rfl rfl ?_ | refine A_len rfl rfl 22 _ rfl ud22 rfl ?_ | refine A_cmp (d := 17) rfl rfl (c := false) .eql 3 3 _ _ rfl rfl rfl (by exact congrArg some (decide_eq_false (by (try (dsimp only; fail_if_success done)); omega))) ?_ | refine AL.nil ?_ | refine AL.skip rfl rfl ?_)) | with_reducible refine AW.at_region _ ?_ | (with_reducible (first | refine wk0 ?_ | refine wk2 ?_ | refine wk9 ?_ | refine wkb ?_)))
      all_goals first | (exfalso; omega) | (exact Fin.q Try.results91 (.cons (.tmp rfl) .nil) [])
end Go.Proofs.Ytphcebioiipdpaa


namespace Go.Proofs.Ytphcebioiipdpaa
set_option linter.unusedVariables false
set_option linter.unusedSimpArgs false
set_option linter.unnecessarySimpa false
def hdl (p g : Int) : Int := if 0 ≤ p ∧ p ≤ 7 ∧ 1 ≤ g ∧ g ≤ 4095 then g * 8 + p else 0
def plOk (h : Int) : Bool := decide (8 ≤ h ∧ h ≤ 32767)
def plP (h : Int) : Int := if plOk h then h % 8 else 0
def plG (h : Int) : Int := if plOk h then h / 8 else 0
theorem pl_yes {h : Int} (a : 8 ≤ h) (b : h ≤ 32767) : plP h = h % 8 ∧ plG h = h / 8 ∧ plOk h = true := by
  have hok : plOk h = true := decide_eq_true ⟨a, b⟩
  unfold plP plG; rw [if_pos hok, if_pos hok]; exact ⟨rfl, rfl, hok⟩
theorem pl_no {h : Int} (a : ¬ (8 ≤ h ∧ h ≤ 32767)) : plP h = 0 ∧ plG h = 0 ∧ plOk h = false := by
  have hok : plOk h = false := decide_eq_false a
  unfold plP plG; rw [hok]; exact ⟨rfl, rfl, rfl⟩
theorem hdl_pl {h : Int} (k : plOk h = true) : hdl (plP h) (plG h) = h := by
  have hb : 8 ≤ h ∧ h ≤ 32767 := by unfold plOk at k; exact of_decide_eq_true k
  obtain ⟨a, b, _⟩ := pl_yes hb.1 hb.2
  rw [a, b]; unfold hdl; rw [if_pos (by omega)]; omega
end Go.Proofs.Ytphcebioiipdpaa


namespace Go.Proofs.Ytphcebioiipdpaa
set_option linter.unusedVariables false
set_option linter.unusedSimpArgs false
set_option linter.unnecessarySimpa false
open Go.RowKit
def chA (h : DHall) (p : Int) : DChan := h.chans.getD p.toNat default
def fndOk (h : DHall) (x : Int) : Bool := plOk x && decide (plP x < (h.chans.length : Int)) && (chA h (plP x)).used && decide ((chA h (plP x)).gen = plG x)
def fndP (h : DHall) (x : Int) : Int := if fndOk h x then plP x else 0
def noteL (d : List Rst) (t : Int) (r : Rst) : List Rst := if 0 ≤ t ∧ t < (d.length : Int) then d.set t.toNat r else d
def tellL (d : List Rst) (l : List DTold) : List Rst := l.foldl (fun d x => noteL d x.thread x.result) d
theorem noteL_len (d : List Rst) (t : Int) (r : Rst) : (noteL d t r).length = d.length := by unfold noteL; split <;> simp
theorem tellL_len (l : List DTold) : ∀ d : List Rst, (tellL d l).length = d.length := by
  induction l with
  | nil => intro d; rfl
  | cons x l ih => intro d; show (tellL (noteL d x.thread x.result) l).length = _; rw [ih, noteL_len]
theorem tellL_next {d : List Rst} {l : List DTold} {q : Nat} {x : DTold} (h : l[q]? = some x) : tellL d (l.take (q + 1)) = noteL (tellL d (l.take q)) x.thread x.result := by unfold tellL; rw [List.take_add_one, h, List.foldl_append]; rfl
theorem fnd_yes {h : DHall} {x : Int} (e : fndOk h x = true) : ∃ (n : Nat) (c : DChan), plOk x = true ∧ plP x = n ∧ h.chans[n]? = some c ∧ c.used = true ∧ c.gen = plG x ∧ fndP h x = n ∧ chA h n = c ∧ n < h.chans.length := by
  have e0 := e
  unfold fndOk at e
  simp only [Bool.and_eq_true, decide_eq_true_eq] at e
  obtain ⟨⟨⟨e1, e2⟩, e3⟩, e4⟩ := e
  have hb : 8 ≤ x ∧ x ≤ 32767 := by unfold plOk at e1; exact of_decide_eq_true e1
  have hp := (pl_yes hb.1 hb.2).1
  obtain ⟨n, hn⟩ : ∃ n : Nat, plP x = n := ⟨(plP x).toNat, by omega⟩
  rw [hn] at e2 e3 e4
  have hl : n < h.chans.length := by omega
  have hg : chA h (n : Int) = h.chans[n] := by unfold chA; rw [Int.toNat_natCast, getD_of (List.getElem?_eq_getElem hl)]
  rw [hg] at e3 e4
  exact ⟨n, h.chans[n], e1, hn, List.getElem?_eq_getElem hl, e3, e4, by unfold fndP; rw [if_pos e0, hn], hg, hl⟩
theorem fnd_no {h : DHall} {x : Int} (e : fndOk h x = false) : fndP h x = 0 := by unfold fndP; rw [e]; rfl
def okO (c : DConf) (x : DChan) : Bool := !x.used && decide (x.gen < min c.gens 4095)
def cH (h : DHall) (l : List DChan) : DHall := ⟨h.ticket, l, h.waits, h.done⟩
def openH (c : DConf) (h : DHall) (cap : Int) : DHall × Rst :=
  if cap < 0 ∨ c.cap < cap then (h, ⟨0, 0, 1, 0⟩)
  else if 0 ≤ ixF (okO c) h.chans then
    (cH h (h.chans.set (ixF (okO c) h.chans).toNat ⟨(chA h (ixF (okO c) h.chans)).gen + 1, cap, true, false, []⟩), ⟨0, 0, 0, hdl (ixF (okO c) h.chans) ((chA h (ixF (okO c) h.chans)).gen + 1)⟩)
  else (h, ⟨0, 0, if h.chans.any (fun x => !x.used) then 7 else 6, 0⟩)
def idleC (c : DChan) (x : Int) (l : List DWait) : Bool := c.used && c.closed && decide (c.buf = []) && decide (onS l x = [])
def freeH (h : DHall) (x : Int) : DHall × Rst :=
  if fndOk h x then
    if idleC (chA h (fndP h x)) x h.waits then (cH h (h.chans.set (fndP h x).toNat ⟨(chA h (fndP h x)).gen, 0, false, false, []⟩), ⟨0, 0, 0, 0⟩) else (h, ⟨0, 0, 13, 0⟩)
  else (h, ⟨0, 0, 8, 0⟩)
def badK (k : DCase) : Bool := decide (¬ (k.dir = 1 ∨ k.dir = 2) ∨ k.value < 0 ∨ 4294967295 < k.value)
def casesE (h : DHall) (l : List DCase) : Int := if l.length = 0 ∨ 3 < l.length ∨ l.any badK = true then 1 else if l.any (fun k => !fndOk h k.handle) then 8 else 0
def rdyK (h : DHall) (k : DCase) : Bool := rdyC (chA h (fndP h k.handle)) k.handle h.waits k.dir
def gotH (h : DHall) (k : DCase) : DG := doG (chA h (fndP h k.handle)) k.handle h.waits k.dir k.value
def oneH (h : DHall) (which : Int) (k : DCase) : DHall × Rst :=
  (⟨h.ticket, h.chans.set (fndP h k.handle).toNat (gotH h k).c, (gotH h k).l, tellL h.done (gotH h k).told⟩, ⟨(gotH h k).r.seq, which, (gotH h k).r.code, (gotH h k).r.value⟩)
def chooseH (h : DHall) (t n : Int) (q : DReq) : DHall × Rst :=
  if casesE h q.cases ≠ 0 then (h, ⟨0, 0, casesE h q.cases, 0⟩)
  else if 0 ≤ ixF (rdyK h) q.cases then oneH h (ixF (rdyK h) q.cases) (q.cases.getD (ixF (rdyK h) q.cases).toNat default)
  else if q.dflt then (h, ⟨0, 0, 10, 0⟩)
  else if 4294967295 ≤ h.ticket then (h, ⟨0, 0, 7, 0⟩)
  else if putOk h.waits t then (⟨h.ticket + 1, h.chans, putW h.waits t ⟨false, h.ticket, n, q.cases⟩, h.done⟩, ⟨0, 0, 14, 0⟩)
  else (h, ⟨0, 0, 13, 0⟩)
def closeH (h : DHall) (x : Int) : DHall × Rst :=
  if fndOk h x then
    (⟨h.ticket, h.chans.set (fndP h x).toNat (shutG (chA h (fndP h x)) x h.waits).c, (shutG (chA h (fndP h x)) x h.waits).l, tellL h.done (shutG (chA h (fndP h x)) x h.waits).told⟩, ⟨0, 0, (shutG (chA h (fndP h x)) x h.waits).e, 0⟩)
  else (h, ⟨0, 0, 8, 0⟩)
def lookH (h : DHall) (q : DReq) : Rst :=
  if fndOk h q.arg then (if q.kind = 6 then ⟨0, 0, 0, (chA h (fndP h q.arg)).cap⟩ else ⟨0, 0, 0, ((chA h (fndP h q.arg)).buf.length : Int)⟩) else ⟨0, 0, 8, 0⟩
def mayCut (h : DHall) (me t n : Int) : Bool := cutOk h.waits t && decide (t ≠ me) && decide ((h.waits.getD t.toNat default).seq = n)
def cancelH (h : DHall) (me t n : Int) : DHall × Rst :=
  if mayCut h me t n then (⟨h.ticket, h.chans, cutW h.waits t, noteL h.done t ⟨n, 0, 11, 0⟩⟩, ⟨0, 0, 0, 0⟩) else (h, ⟨0, 0, 12, 0⟩)
def callH (c : DConf) (h : DHall) (t n : Int) (q : DReq) : DHall × Rst :=
  if q.kind = 1 then openH c h q.arg
  else if q.kind = 2 then freeH h q.arg
  else if q.kind = 3 then chooseH h t n q
  else if q.kind = 4 then closeH h q.arg
  else if q.kind = 5 ∨ q.kind = 6 then (h, lookH h q)
  else if q.kind = 7 then cancelH h t q.arg q.value
  else (h, ⟨0, 0, 1, 0⟩)
def applyH (c : DConf) (h : DHall) (t n : Int) (q : DReq) : DHall :=
  ⟨(callH c h t n q).1.ticket, (callH c h t n q).1.chans, (callH c h t n q).1.waits, noteL (callH c h t n q).1.done t ⟨n, (callH c h t n q).2.cas, (callH c h t n q).2.code, (callH c h t n q).2.value⟩⟩
theorem casesE_0 {h : DHall} {l : List DCase} (e : casesE h l = 0) : l.length ≤ 3 ∧ 0 < l.length ∧ (∀ x ∈ l, badK x = false) ∧ ∀ x ∈ l, fndOk h x.handle = true := by
  unfold casesE at e
  split at e
  · omega
  · rename_i h1
    split at e
    · omega
    · rename_i h2
      refine ⟨by omega, by omega, fun x hx => ?_, fun x hx => ?_⟩
      · cases hb : badK x
        · rfl
        · exact absurd (.inr (.inr (List.any_eq_true.2 ⟨x, hx, hb⟩))) h1
      · cases hb : fndOk h x.handle
        · exact absurd (List.any_eq_true.2 ⟨x, hx, by simp [hb]⟩) h2
        · rfl
structure okQ (h : DHall) (q : DReq) : Prop where
  a : sI q.arg
  v : sI q.value
  c : ∀ x ∈ q.cases, sCs x
  l : q.cases.length ≤ 5864062014805
  t : -9223372036854775808 ≤ h.ticket
  g : ∀ x ∈ h.chans, sI x.gen
theorem openH_len (c : DConf) (h : DHall) (x : Int) : (openH c h x).1.chans.length = h.chans.length ∧ (openH c h x).1.done = h.done := by
  unfold openH
  repeat' split
  all_goals first | exact ⟨rfl, rfl⟩ | (simp [cH]; done)
theorem freeH_len (h : DHall) (x : Int) : (freeH h x).1.chans.length = h.chans.length ∧ (freeH h x).1.done = h.done := by
  unfold freeH
  repeat' split
  all_goals first | exact ⟨rfl, rfl⟩ | (simp [cH]; done)
theorem chooseH_len (h : DHall) (t n : Int) (q : DReq) : (chooseH h t n q).1.chans.length = h.chans.length ∧ (chooseH h t n q).1.done.length = h.done.length := by
  unfold chooseH oneH
  repeat' split
  all_goals first | exact ⟨rfl, rfl⟩ | (simp [tellL_len]; done)
theorem closeH_len (h : DHall) (x : Int) : (closeH h x).1.chans.length = h.chans.length ∧ (closeH h x).1.done.length = h.done.length := by unfold closeH; split <;> simp [tellL_len]
theorem cancelH_len (h : DHall) (me t n : Int) : (cancelH h me t n).1.chans.length = h.chans.length ∧ (cancelH h me t n).1.done.length = h.done.length := by unfold cancelH; split <;> simp [noteL_len]
theorem callH_len (c : DConf) (h : DHall) (t n : Int) (q : DReq) : (callH c h t n q).1.chans.length = h.chans.length ∧ (callH c h t n q).1.done.length = h.done.length := by
  unfold callH
  have h1 := openH_len c h q.arg
  have h2 := freeH_len h q.arg
  have h3 := chooseH_len h t n q
  have h4 := closeH_len h q.arg
  have h5 := cancelH_len h t q.arg q.value
  repeat' split
  all_goals first | exact ⟨rfl, rfl⟩ | assumption | exact ⟨h1.1, by rw [h1.2]⟩ | exact ⟨h2.1, by rw [h2.2]⟩
theorem applyH_len (c : DConf) (h : DHall) (t n : Int) (q : DReq) : (applyH c h t n q).chans.length = h.chans.length ∧ (applyH c h t n q).done.length = h.done.length := by
  have := callH_len c h t n q
  unfold applyH
  exact ⟨this.1, by rw [noteL_len]; exact this.2⟩
theorem noteL_in {d : List Rst} {j : Nat} {r : Rst} (h : j < d.length) : noteL d j r = d.set j r := by unfold noteL; rw [if_pos ⟨by omega, by omega⟩, Int.toNat_natCast]
theorem noteL_out {d : List Rst} {t : Int} {r : Rst} (h : ¬ (0 ≤ t ∧ t < (d.length : Int))) : noteL d t r = d := by unfold noteL; rw [if_neg h]
end Go.Proofs.Ytphcebioiipdpaa


namespace Go.Proofs.Ytphcebioiipdpaa
set_option linter.unusedVariables false
set_option linter.unusedSimpArgs false
set_option linter.unnecessarySimpa false
open Go.RowKit
abbrev u64 (x : Int) : AV := .t (.v (.int .u64 x))
abbrev aCf (c : DConf) : AV := .agg [i64 c.kind, i64 c.threads, i64 c.chans, i64 c.cap, i64 c.nodes, i64 c.retire, i64 c.patience, i64 c.tags, i64 c.seqs, i64 c.gens, .ln (c.start.map tI)]
abbrev aHl (h : DHall) : AV := .agg [i64 h.ticket, .ln (h.chans.map tCh), .ln (h.waits.map tWt), .ln (h.done.map tR)]
abbrev aRq (q : DReq) : AV := .agg [i64 q.kind, i64 q.arg, i64 q.value, bo q.dflt, .ln (q.cases.map tCs)]
abbrev aR (r : Rst) : AV := .agg [i64 r.seq, i64 r.cas, i64 r.code, i64 r.value]
abbrev fCf (c : DConf) : AV := .agg [i64 c.kind, i64 c.threads, i64 c.chans, i64 c.cap, i64 c.nodes, i64 c.retire, i64 c.patience, i64 c.tags, i64 c.seqs, i64 c.gens, .t (.lst (c.start.map tI))]
end Go.Proofs.Ytphcebioiipdpaa


namespace Go.Proofs.Ytphcebioiipdpaa
set_option linter.unusedVariables false
set_option linter.unusedSimpArgs false
set_option linter.unnecessarySimpa false
open Go.RowKit
def isPtr : AV → Bool
  | .ptr _ _ => true
  | .lp _ => true
  | .rp _ _ _ _ => true
  | _ => false
section
variable {P : Program} {ops : Array Oper} {Q : QS} {rest : List Oper} {o : Oper} {n : Fr} {T : Nat → AV} {heap : List Ob} {d : Nat}
theorem A_nilc (hw : wantedA n T ops o = true) (hd : o.dst = some d) (x : Operand) (ho : o.op = .nilCheck x) {y : AV} (hx : evA n T x = y) (hp : isPtr y = true) (k : AL P ops Q rest n (pu T d y) heap) : AL P ops Q (o :: rest) n T heap := by
  subst hx
  refine AL.val hw hd (fun e a w ρ Z Y hR => ⟨a.eval x, ?_, hR.eval x⟩) k
  have hv := hR.eval x
  have key : ∀ (y : AV) (v : Value), isPtr y = true → Val (Kn heap) ρ w Z Y y v → ∃ p, v = .pointer (some p) := by
    intro y v hp hv
    cases hv <;> first | (cases hp; done) | exact ⟨_, rfl⟩
  obtain ⟨p, e1⟩ := key _ _ hp hv
  unfold execOp; rw [ho]
  simp only [e1]
  rfl
theorem R_nilc (hw : wantedA n T ops o = true) (hd : o.dst = some d) (x : Operand) (ho : o.op = .nilCheck x) {y : AV} (hx : evA n T x = y) (hp : isPtr y = true) {F : List Dl → (Nat → AV) → List Ob → Prop} {acc : List Dl} (k : RG P ops n F rest (acc ++ [⟨some d, y, [], []⟩]) (pu T d y) heap) : RG P ops n F (o :: rest) acc T heap :=
  RG.cons hd.symm (fun T' h' hT hH hlen_ => A_nilc (by rw [wanted_eqA hT]; exact hw) hd x ho (by rw [ev_eq hT (by simp [ho, Op.operands, Call.operands])]; exact hx) hp (AL.nil ⟨rfl, rfl, rfl⟩)) rfl rfl k
theorem A_pkt (hw : wantedA n T ops o = true) (hd : o.dst = some d) (c x y : Operand) (ho : o.op = .pick c x y) (hc : evA n T c = .t (.v (.bool true))) {u : Tr} (hx : evA n T x = .t u) (k : AL P ops Q rest n (pu T d (.t u)) heap) : AL P ops Q (o :: rest) n T heap := A_pick hw hd c x y ho hc hx rfl rfl k
theorem A_pkf (hw : wantedA n T ops o = true) (hd : o.dst = some d) (c x y : Operand) (ho : o.op = .pick c x y) (hc : evA n T c = .t (.v (.bool false))) {u : Tr} (hx : evA n T y = .t u) (k : AL P ops Q rest n (pu T d (.t u)) heap) : AL P ops Q (o :: rest) n T heap := A_pick hw hd c x y ho hc rfl hx rfl k
theorem R_pkt (hw : wantedA n T ops o = true) (hd : o.dst = some d) (c x y : Operand) (ho : o.op = .pick c x y) (hc : evA n T c = .t (.v (.bool true))) {u : Tr} (hx : evA n T x = .t u) {F : List Dl → (Nat → AV) → List Ob → Prop} {acc : List Dl} (k : RG P ops n F rest (acc ++ [⟨some d, .t u, [], []⟩]) (pu T d (.t u)) heap) : RG P ops n F (o :: rest) acc T heap := R_pick hw hd c x y ho hc hx rfl rfl k
theorem R_pkf (hw : wantedA n T ops o = true) (hd : o.dst = some d) (c x y : Operand) (ho : o.op = .pick c x y) (hc : evA n T c = .t (.v (.bool false))) {u : Tr} (hx : evA n T y = .t u) {F : List Dl → (Nat → AV) → List Ob → Prop} {acc : List Dl} (k : RG P ops n F rest (acc ++ [⟨some d, .t u, [], []⟩]) (pu T d (.t u)) heap) : RG P ops n F (o :: rest) acc T heap := R_pick hw hd c x y ho hc rfl hx rfl k
end
end Go.Proofs.Ytphcebioiipdpaa


namespace Go.Proofs.Ytphcebioiipdpaa
set_option linter.unusedVariables false
set_option linter.unusedSimpArgs false
set_option linter.unnecessarySimpa false
open Go.RowKit
set_option maxHeartbeats 32000000
attribute [local irreducible] AL AW RG Fin C Cd Cio thenQ blockQ retQ
set_option maxRecDepth 100000
structure okHl (h : DHall) : Prop where
  c : h.chans.length ≤ 2932031007402
  b : ∀ x ∈ h.chans, x.buf.length ≤ 17592186043904
  w : okW h.waits
  d : h.done.length ≤ 4398046511104
structure okHc (h : DHall) : Prop where
  c : h.chans.length ≤ 1152921504606846976
  b : ∀ x ∈ h.chans, x.buf.length ≤ 1152921504606846976
  w : okW h.waits
  d : h.done.length ≤ 1152921504606846976
theorem okHl.hc {h : DHall} (k : okHl h) : okHc h := ⟨by have := k.c; omega, fun x hx => by have := k.b x hx; omega, k.w, by have := k.d; omega⟩
end Go.Proofs.Ytphcebioiipdpaa


namespace Go.Proofs.Ytphcebioiipdpaa
set_option linter.unusedVariables false
set_option linter.unusedSimpArgs false
set_option linter.unnecessarySimpa false
open Go.RowKit
theorem noteL_mem {d : List Rst} {t : Int} {r x : Rst} (h : x ∈ noteL d t r) : x ∈ d ∨ x = r := by
  unfold noteL at h; split at h
  · exact List.mem_or_eq_of_mem_set h
  · exact .inl h
theorem doG_gen (c : DChan) (h : Int) (l : List DWait) (d v : Int) : (doG c h l d v).c.gen = c.gen ∧ (doG c h l d v).c.cap = c.cap ∧ (doG c h l d v).c.used = c.used ∧ (doG c h l d v).c.closed = c.closed := by
  unfold doG sendG recvG chB
  repeat' split
  all_goals exact ⟨rfl, rfl, rfl, rfl⟩
theorem shutG_gen (c : DChan) (h : Int) (l : List DWait) (hu : c.used = true) : (shutG c h l).c.gen = c.gen ∧ (shutG c h l).c.cap = c.cap ∧ (shutG c h l).c.used = c.used ∧ (shutG c h l).c.buf = c.buf := by
  unfold shutG
  split
  · exact ⟨rfl, rfl, hu.symm, rfl⟩
  · exact ⟨rfl, rfl, rfl, rfl⟩
structure Wq (l : List DWait) : Prop where
  s : ∀ w ∈ l, w.cases.length ≤ 3
  off : ∀ w ∈ l, w.on = false → w = w0
theorem Wq.set {l : List DWait} (h : Wq l) {t : Nat} {w : DWait} (h1 : w.cases.length ≤ 3) (h2 : w.on = false → w = w0) : Wq (l.set t w) :=
  ⟨fun x hx => by rcases List.mem_or_eq_of_mem_set hx with hx | rfl; exact h.s x hx; exact h1, fun x hx => by rcases List.mem_or_eq_of_mem_set hx with hx | rfl; exact h.off x hx; exact h2⟩
theorem Wq.cut {l : List DWait} (h : Wq l) (t : Int) : Wq (cutW l t) := by
  unfold cutW; split
  · exact h.set (by decide) (fun _ => rfl)
  · exact h
theorem Wq.cuts (S : List Int) : ∀ {l : List DWait}, Wq l → Wq (S.foldl cutW l) := by
  induction S with
  | nil => intro l h; exact h
  | cons a S ih => intro l h; exact ih (h.cut a)
theorem Wq.put {l : List DWait} (h : Wq l) (t : Int) {w : DWait} (hw : w.cases.length ≤ 3) : Wq (putW l t w) := by
  unfold putW; split
  · exact h.set hw (fun e => by cases e)
  · exact h
theorem Wq.doG {c : DChan} {x : Int} {l : List DWait} {d v : Int} (h : Wq l) : Wq (doG c x l d v).l := by
  rcases doG_all c x l d v with ⟨_, h2, _, _⟩ | ⟨t, m, w, z, _, _, hw, _, h1, h2, h3, _⟩
  · rw [h2]; exact h
  · rw [h2]; exact h.set (by decide) (fun _ => rfl)
structure HBd (k : Nat) (h : DHall) : Prop where
  tk : 0 ≤ h.ticket ∧ h.ticket ≤ k
  bl : ∀ x ∈ h.chans, x.buf.length ≤ k
  gn : ∀ x ∈ h.chans, 0 ≤ x.gen ∧ x.gen ≤ 4095
  w : Wq h.waits
theorem HBd.up {k k' : Nat} {h : DHall} (b : HBd k h) (hk : k ≤ k') : HBd k' h := ⟨⟨b.tk.1, by have := b.tk.2; omega⟩, fun x hx => Nat.le_trans (b.bl x hx) hk, b.gn, b.w⟩
theorem getD_mem {α : Type} {l : List α} {n : Nat} {d : α} (h : n < l.length) : l.getD n d ∈ l := by rw [List.getD_eq_getElem?_getD, List.getElem?_eq_getElem h]; exact List.getElem_mem h
theorem fnd_mem {h : DHall} {x : Int} (e : fndOk h x = true) : chA h (fndP h x) ∈ h.chans := by
  obtain ⟨n, c, _, _, hc, _, _, e3, e4, _⟩ := fnd_yes e
  rw [e3, e4]; exact List.mem_of_getElem? hc
theorem oneH_bd {k : Nat} {h : DHall} {wh : Int} {x : DCase} (b : HBd k h) (hf : fndOk h x.handle = true) : HBd (k + 1) (oneH h wh x).1 := by
  have hm := fnd_mem hf
  unfold oneH gotH
  refine ⟨⟨b.tk.1, by have := b.tk.2; dsimp only; omega⟩, fun y hy => ?_, fun y hy => ?_, b.w.doG⟩
  · dsimp only at hy
    rcases List.mem_or_eq_of_mem_set hy with hy | rfl
    · have := b.bl y hy; omega
    · have h1 := b.bl _ hm
      rcases doG_all (chA h (fndP h x.handle)) x.handle h.waits x.dir x.value with ⟨_, _, _, h4⟩ | ⟨_, _, _, _, _, _, _, _, _, _, h3, _⟩ <;> omega
  · dsimp only at hy
    rcases List.mem_or_eq_of_mem_set hy with hy | rfl
    · exact b.gn y hy
    · rw [(doG_gen _ _ _ _ _).1]; exact b.gn _ hm
theorem ixF_mem {α : Type} {p : α → Bool} {l : List α} {d : α} (h : 0 ≤ ixF p l) : l.getD (ixF p l).toNat d ∈ l ∧ p (l.getD (ixF p l).toNat d) = true := by
  obtain ⟨a, ha, hp⟩ := ixF_get p l h
  rw [getD_of ha]; exact ⟨List.mem_of_getElem? ha, hp⟩
theorem callH_bd {k : Nat} {c : DConf} {h : DHall} {t n : Int} {q : DReq} (b : HBd k h) : HBd (k + 1) (callH c h t n q).1 := by
  have b1 := b.up (Nat.le_succ k)
  unfold callH
  split
  · unfold openH; split
    · exact b1
    · split
      · rename_i h0
        refine ⟨b1.tk, fun y hy => ?_, fun y hy => ?_, b1.w⟩
        · rcases List.mem_or_eq_of_mem_set hy with hy | rfl
          · exact b1.bl y hy
          · exact Nat.zero_le _
        · rcases List.mem_or_eq_of_mem_set hy with hy | rfl
          · exact b1.gn y hy
          · obtain ⟨hm, hp⟩ := ixF_mem (d := (default : DChan)) h0
            have hg := b.gn _ hm
            dsimp only [chA]
            generalize h.chans.getD (ixF (okO c) h.chans).toNat default = a at hg hp ⊢
            unfold okO at hp
            simp only [Bool.and_eq_true, decide_eq_true_eq] at hp
            omega
      · exact b1
  · split
    · unfold freeH; split
      · rename_i hf
        split
        · refine ⟨b1.tk, fun y hy => ?_, fun y hy => ?_, b1.w⟩
          · rcases List.mem_or_eq_of_mem_set hy with hy | rfl
            · exact b1.bl y hy
            · exact Nat.zero_le _
          · rcases List.mem_or_eq_of_mem_set hy with hy | rfl
            · exact b1.gn y hy
            · have := b.gn _ (fnd_mem hf); exact this
        · exact b1
      · exact b1
    · split
      · unfold chooseH; split
        · exact b1
        · rename_i hE
          obtain ⟨h3, -, -, h5⟩ := casesE_0 (Decidable.not_not.1 hE)
          split
          · rename_i h0
            exact oneH_bd b (h5 _ (ixF_mem h0).1)
          · split
            · exact b1
            · split
              · exact b1
              · split
                · exact ⟨⟨by have := b.tk.1; dsimp only; omega, by have := b.tk.2; dsimp only; omega⟩, b1.bl, b1.gn, b.w.put _ h3⟩
                · exact b1
      · split
        · unfold closeH; split
          · rename_i hf
            obtain ⟨n', ch, _, _, hc, hu, _, e3, e4, _⟩ := fnd_yes hf
            rw [e3, e4]
            have hg := shutG_gen ch q.arg h.waits hu
            refine ⟨b1.tk, fun y hy => ?_, fun y hy => ?_, ?_⟩
            · rcases List.mem_or_eq_of_mem_set hy with hy | rfl
              · exact b1.bl y hy
              · rw [hg.2.2.2]; exact b1.bl _ (List.mem_of_getElem? hc)
            · rcases List.mem_or_eq_of_mem_set hy with hy | rfl
              · exact b1.gn y hy
              · rw [hg.1]; exact b1.gn _ (List.mem_of_getElem? hc)
            · unfold shutG; split
              · exact Wq.cuts _ b.w
              · exact b.w
          · exact b1
        · split
          · exact b1
          · split
            · unfold cancelH; split
              · exact ⟨b1.tk, b1.bl, b1.gn, b.w.cut _⟩
              · exact b1
            · exact b1
theorem applyH_bd {k : Nat} {c : DConf} {h : DHall} {t n : Int} {q : DReq} (b : HBd k h) : HBd (k + 1) (applyH c h t n q) := by
  have := callH_bd (c := c) (t := t) (n := n) (q := q) b
  exact ⟨this.tk, this.bl, this.gn, this.w⟩
theorem shutG_len (c : DChan) (x : Int) (l : List DWait) : (shutG c x l).l.length = l.length := by
  unfold shutG; split
  · dsimp only
    suffices ∀ (S : List Int) (l : List DWait), (S.foldl cutW l).length = l.length from this _ _
    intro S
    induction S with
    | nil => intro l; rfl
    | cons a S ih => intro l; rw [List.foldl_cons, ih, cutW_len]
  · rfl
theorem doG_len (c : DChan) (x : Int) (l : List DWait) (d v : Int) : (doG c x l d v).l.length = l.length := by
  rcases doG_all c x l d v with ⟨_, h2, _, _⟩ | ⟨t, m, w, z, _, _, hw, _, h1, h2, h3, _⟩
  · rw [h2]
  · rw [h2, List.length_set]
theorem callH_wlen (c : DConf) (h : DHall) (t n : Int) (q : DReq) : (callH c h t n q).1.waits.length = h.waits.length := by
  unfold callH openH freeH chooseH oneH gotH closeH cancelH cH
  repeat' split
  all_goals first | rfl | (dsimp only; rw [doG_len]; done) | (dsimp only; rw [shutG_len]; done) | (dsimp only; rw [cutW_len]; done) | (dsimp only; rw [putW_len]; done)
theorem applyH_wlen (c : DConf) (h : DHall) (t n : Int) (q : DReq) : (applyH c h t n q).waits.length = h.waits.length := callH_wlen c h t n q
structure Ln (p th : Nat) (h : DHall) : Prop where
  c : h.chans.length = p
  w : h.waits.length = th
  d : h.done.length = th
theorem HBd.ok {k p th : Nat} {h : DHall} (b : HBd k h) (l : Ln p th h) (hk : k ≤ 1000) (hp : p ≤ 1000) (ht : th ≤ 1000) : okHl h :=
  ⟨by rw [l.c]; omega, fun x hx => by have := b.bl x hx; omega, ⟨by rw [l.w]; omega, fun w hw => by have := b.w.s w hw; omega⟩, by rw [l.d]; omega⟩
theorem HBd.okQ {k : Nat} {h : DHall} (b : HBd k h) {q : DReq} (hq : sRq q) (hl : q.cases.length ≤ 5864062014805) : okQ h q :=
  ⟨hq.2.1, hq.2.2.1, hq.2.2.2.2.2, hl, by have := b.tk.1; omega, fun x hx => by have := b.gn x hx; unfold sI; omega⟩
end Go.Proofs.Ytphcebioiipdpaa


namespace Go.Proofs.Ytphcebioiipdpaa
set_option linter.unusedVariables false
set_option linter.unusedSimpArgs false
set_option linter.unnecessarySimpa false
open Go.RowKit
set_option maxHeartbeats 32000000
attribute [local irreducible] AL AW RG Fin C Cd Cio thenQ blockQ retQ
set_option maxRecDepth 100000
def stC (s : List Int) (p i : Nat) : List DChan := (List.range p).map fun j => if j < i ∧ j < s.length then ⟨1, s.getD j 0, true, false, []⟩ else ⟨0, 0, false, false, []⟩
theorem stC_len (s : List Int) (p i : Nat) : (stC s p i).length = p := by simp [stC]
theorem stC_get (s : List Int) {p i j : Nat} (h : j < p) : (stC s p i)[j]? = some (if j < i ∧ j < s.length then ⟨1, s.getD j 0, true, false, []⟩ else ⟨0, 0, false, false, []⟩) := by unfold stC; rw [List.getElem?_map, List.getElem?_range h]; rfl
theorem stC_zero (s : List Int) (p : Nat) : stC s p 0 = List.replicate p ⟨0, 0, false, false, []⟩ := by
  refine List.ext_getElem? fun j => ?_
  by_cases h : j < p
  · rw [stC_get s h, List.getElem?_replicate, if_pos h, if_neg (by omega)]
  · rw [List.getElem?_eq_none (by rw [stC_len]; omega), List.getElem?_eq_none (by simp; omega)]
theorem stC_next {s : List Int} {p i : Nat} {x : Int} (hi : i < p) (hx : s[i]? = some x) : stC s p (i + 1) = (stC s p i).set i ⟨1, x, true, false, []⟩ := by
  have hl := get_lt hx
  refine List.ext_getElem? fun j => ?_
  rw [List.getElem?_set]
  by_cases h : j < p
  · rw [stC_get s h, stC_get s h, stC_len]
    by_cases e : i = j
    · subst e
      rw [if_pos rfl, if_pos hi, if_pos ⟨by omega, hl⟩, List.getD_eq_getElem?_getD, hx]; rfl
    · rw [if_neg e]
      by_cases q : j < i ∧ j < s.length
      · rw [if_pos q, if_pos ⟨by omega, q.2⟩]
      · rw [if_neg q, if_neg (by omega)]
  · rw [List.getElem?_eq_none (by rw [stC_len]; omega), if_neg (by omega), List.getElem?_eq_none (by rw [stC_len]; omega)]
def plN (c : DConf) : Nat := (max 0 (min c.chans 8)).toNat
def thN (c : DConf) : Nat := (max 0 (min c.threads 64)).toNat
theorem plN_e (c : DConf) : ((plN c : Nat) : Int) = max 0 (min c.chans 8) ∧ plN c ≤ 8 := by unfold plN; omega
theorem thN_e (c : DConf) : ((thN c : Nat) : Int) = max 0 (min c.threads 64) ∧ thN c ≤ 64 := by unfold thN; omega
attribute [local irreducible] stC plN thN
end Go.Proofs.Ytphcebioiipdpaa


namespace Go.Proofs.Ytphcebioiipdpaa
set_option linter.unusedVariables false
set_option linter.unusedSimpArgs false
set_option linter.unnecessarySimpa false
open Go.RowKit
def startH (c : DConf) : DHall := ⟨0, stC c.start (plN c) (plN c), List.replicate (thN c) ⟨false, 0, 0, []⟩, List.replicate (thN c) ⟨0, 0, 0, 0⟩⟩
theorem stC_mem {s : List Int} {p i : Nat} {x : DChan} (h : x ∈ stC s p i) : x.buf = [] ∧ (x.gen = 0 ∨ x.gen = 1) := by
  unfold stC at h
  obtain ⟨j, -, rfl⟩ := List.mem_map.1 h
  split <;> simp
theorem startH_bd (c : DConf) : HBd 0 (startH c) := by
  refine ⟨⟨Int.le_refl _, Int.le_refl _⟩, fun x hx => ?_, fun x hx => ?_, ⟨fun w hw => ?_, fun w hw _ => ?_⟩⟩
  · rw [(stC_mem hx).1]; exact Nat.zero_le _
  · rcases (stC_mem hx).2 with e | e <;> omega
  · rw [List.eq_of_mem_replicate hw]; exact Nat.zero_le _
  · rw [List.eq_of_mem_replicate hw]; rfl
theorem startH_ln (c : DConf) : Ln (plN c) (thN c) (startH c) := ⟨stC_len _ _ _, List.length_replicate, List.length_replicate⟩
theorem applyH_ln {p th : Nat} {c : DConf} {h : DHall} {t n : Int} {q : DReq} (l : Ln p th h) : Ln p th (applyH c h t n q) :=
  ⟨by rw [(applyH_len c h t n q).1, l.c], by rw [applyH_wlen, l.w], by rw [(applyH_len c h t n q).2, l.d]⟩
theorem noteL_get {d : List Rst} {j : Nat} {r : Rst} (h : j < d.length) : (noteL d j r)[j]? = some r := by rw [noteL_in h, List.getElem?_set_self h]
end Go.Proofs.Ytphcebioiipdpaa


namespace Go.Proofs.Ytphcebioiipdpaa
set_option linter.unusedVariables false
set_option linter.unusedSimpArgs false
set_option linter.unnecessarySimpa false
open Go.RowKit Go.ChangeShapes Go.WideShapes
structure DMove where
  thread : Int
  req : DReq
  deriving DecidableEq, Inhabited
def sMv (x : DMove) : Prop := sI x.thread ∧ sRq x.req
end Go.Proofs.Ytphcebioiipdpaa


namespace Go.Proofs.Ytphcebioiipdpaa
set_option linter.unusedVariables false
set_option linter.unusedSimpArgs false
set_option linter.unnecessarySimpa false
open Go.RowKit
def mayGo (h : DHall) (t : Int) : Bool := decide (0 ≤ t ∧ t < (h.waits.length : Int)) && !(h.waits.getD t.toNat default).on
def runH (c : DConf) (l : List DMove) : Nat → DHall
  | 0 => startH c
  | k + 1 => if mayGo (runH c l k) (l.getD k default).thread then applyH c (runH c l k) (l.getD k default).thread ((k : Int) + 1) (l.getD k default).req else runH c l k
theorem runH_next {c : DConf} {l : List DMove} {k : Nat} {x : DMove} (hx : l[k]? = some x) : runH c l (k + 1) = if mayGo (runH c l k) x.thread then applyH c (runH c l k) x.thread ((k : Int) + 1) x.req else runH c l k := by
  show (if mayGo (runH c l k) (l.getD k default).thread then _ else _) = _
  rw [getD_of hx]
theorem runH_bd (c : DConf) (l : List DMove) : ∀ k, HBd k (runH c l k) ∧ Ln (plN c) (thN c) (runH c l k)
  | 0 => ⟨startH_bd c, startH_ln c⟩
  | k + 1 => by
    obtain ⟨b, n⟩ := runH_bd c l k
    unfold runH
    split
    · exact ⟨applyH_bd b, applyH_ln n⟩
    · exact ⟨b.up (Nat.le_succ k), n⟩
end Go.Proofs.Ytphcebioiipdpaa

