/- Joined: THallD, THallS2, THallH, TStartR, THallT, TSame, TSameH, THallI, TMove, TRunP. -/
import Derived.Test.YtphcebioiipdpaaJL12bg
import Derived.Test.YtphcebioiipdpaaJL12bf
import Derived.Test.YtphcebioiipdpaaJL12be
import Derived.Test.YtphcebioiipdpaaJL12bc
import Derived.Test.YtphcebioiipdpaaJL12bd
/- Halls behind calls: the program's shut, look, cancel, call, Apply. -/
namespace Go.Proofs.Ytphcebioiipdpaa
set_option linter.unusedVariables false
set_option linter.unusedSimpArgs false
set_option linter.unnecessarySimpa false
open Go.RowKit
set_option maxHeartbeats 32000000
attribute [local irreducible] AL AW RG Fin C Cd Cio thenQ blockQ retQ
set_option maxRecDepth 100000
theorem shutG_b {c : DChan} {x : Int} {l : List DWait} (hl : okW l) : okW (shutG c x l).l ∧ (shutG c x l).l.length = l.length ∧ (shutG c x l).c.buf = c.buf ∧ (shutG c x l).told.length ≤ l.length := by
  unfold shutG
  split
  · have := cuts_ok (onS l x) l hl
    exact ⟨this.1, this.2, rfl, by dsimp only; rw [List.length_map]; exact (onS_b l x).2.1⟩
  · exact ⟨hl, rfl, rfl, Nat.zero_le _⟩
theorem onS_c (l : List DWait) (h : Int) (hl : okW l) : Cd Try.prog 85 [.ln (l.map tWt), i64 h] (.sl 0 0 (onS l h).length) [.row 0 3 1 ((onS l h).map tI)] := by
  have := onAll_c l h hl
  rw [← isort_len (key := tick l)] at this
  exact this
set_option maxHeartbeats 16000000 in
theorem hshut_c (c : DConf) (m k : Nat) (h : DHall) (t n x : Int) (hx : sI x) (hm : h.chans.length = m) (hk : h.done.length = k) (hh : okHl h) :
    Cio Try.prog 64 [.ptr 0 0, i64 x] (stH c m k h t n) (aR (closeH h x).2) (stH c m k (closeH h x).1 t n) := by
  have h1 : (h.chans.map tCh).length = m := by rw [List.length_map, hm]
  have h1k : (h.done.map tR).length = k := by rw [List.length_map, hk]
  have hm1 := hh.c
  have hk1 := hh.d
  have hw0 := hh.w.1
  have cF := find_c h x hx hm1
  unfold closeH
  cases hf : fndOk h x
  · rw [if_neg (by simp)]
    rw [hf, fnd_no hf] at cF
    dsimp only [stH, stB, aR]
    refine Cio.enter' Try.func64 rfl Try.ntmps64 rfl qM ?_
    repeat' (first | ((with_reducible refine kAL ?_); (first | refine A_alloc rfl rfl 50 rfl inf50 (cs := [.t (.v (.int .i64 0)), .t (.v (.int .i64 0)), .t (.v (.int .i64 0)), .t (.v (.int .i64 0))]) rfl (.push qL qN) ?_ | (refine kL 0 rfl ?_; (first | refine A_mt rfl rfl rfl rfl ?_ | refine A_move rfl rfl _ (.inl rfl) (y := .ptr _ _) rfl ?_ | refine A_move rfl rfl _ (.inl rfl) (y := .tup _) rfl ?_)) | (refine kL 31 rfl ?_; refine A_nilc rfl rfl _ rfl rfl rfl ?_) | refine A_field rfl rfl 70 _ 0 rfl ud70 rfl inf29 (by decide) 0 rfl rfl ?_ | refine A_load_agg rfl rfl 29 _ rfl ud29 rfl inf29 rfl rfl (us' := [_, _, _, _]) rfl rfl ?_ | (refine kL 618 rfl ?_; refine A_cl rfl rfl Try.func19 rfl (cF) ?_) | (refine kL 18 rfl ?_; (first | refine A_extract rfl rfl _ 0 rfl rfl rfl ?_ | refine A_extract rfl rfl _ 1 rfl rfl rfl ?_)) | refine A_as rfl rfl rfl rfl ?_ | refine A_not rfl rfl _ _ rfl rfl ?_ | (refine kL 1614 rfl ?_; refine A_build rfl rfl 50 _ rfl ud50 inf50 [(0, 1), (1, 1), (2, 1), (3, 1)] (by kernel_rfl) (zs := [.t (.v (.int .i64 0)), .t (.v (.int .i64 0)), .t (.v (.int .i64 0)), .t (.v (.int .i64 0))]) rfl (.cons rfl .nil) (cs := [_, _, _, _]) rfl ?_) | refine A_store rfl rfl 50 _ _ rfl inf50 rfl rfl rfl rfl (Nat.le_of_ble_eq_true rfl) qN qN ?_ | refine AL.nil ?_)) | (with_reducible (first | refine wk0 ?_ | refine wk2 ?_ | refine wk3 ?_ | refine wk9 ?_ | refine wkb ?_)) | refine kct rfl ?_ | with_reducible refine AW.at_region _ ?_)
    all_goals first | (exfalso; omega) | (exact Fin.q Try.results64 (.cons (.agg rfl rfl ud50 rfl inf50 (us := [_, _, _, _]) rfl rfl) .nil) [])
  · obtain ⟨j, ch, e1, e2, hc, hu, hgn, e3, e4, e5⟩ := fnd_yes hf
    rw [if_pos rfl, e3, e4, Int.toNat_natCast]
    rw [hf, e3] at cF
    have hb := hh.b ch (List.mem_of_getElem? hc)
    have cS := shut_c ch x h.waits hh.w hb (onS_c h.waits x hh.w)
    obtain ⟨hg1, hg2, hg3, hg4⟩ := @shutG_b ch x h.waits hh.w
    generalize shutG ch x h.waits = g at *
    obtain ⟨⟨g1, g2, g3, g4, gb⟩, gl, ge, gt⟩ := g
    obtain ⟨c1, c2, c3, c4, cb⟩ := ch
    dsimp only at *
    have cT := tell_c c m k ⟨h.ticket, h.chans.set j ⟨g1, g2, g3, g4, gb⟩, gl, h.done⟩ t n gt hk (by omega) (by omega)
    unfold sA at cS
    dsimp only [stH, stB, aR, aC] at *
    refine Cio.enter' Try.func64 rfl Try.ntmps64 rfl qM ?_
    repeat' (first | ((with_reducible refine kAL ?_); (first | refine A_alloc rfl rfl 50 rfl inf50 (cs := [.t (.v (.int .i64 0)), .t (.v (.int .i64 0)), .t (.v (.int .i64 0)), .t (.v (.int .i64 0))]) rfl (.push qL qN) ?_ | (refine kL 0 rfl ?_; (first | refine A_mt rfl rfl rfl rfl ?_ | refine A_move rfl rfl _ (.inl rfl) (y := .ptr _ _) rfl ?_ | refine A_move rfl rfl _ (.inl rfl) (y := .tup _) rfl ?_)) | (refine kL 31 rfl ?_; refine A_nilc rfl rfl _ rfl rfl rfl ?_) | refine A_field rfl rfl 70 _ 0 rfl ud70 rfl inf29 (by decide) 0 rfl rfl ?_ | refine A_load_agg rfl rfl 29 _ rfl ud29 rfl inf29 rfl rfl (us' := [_, _, _, _]) rfl rfl ?_ | (refine kL 618 rfl ?_; refine A_cl rfl rfl Try.func19 rfl (cF) ?_) | (refine kL 18 rfl ?_; (first | refine A_extract rfl rfl _ 0 rfl rfl rfl ?_ | refine A_extract rfl rfl _ 1 rfl rfl rfl ?_)) | refine A_as rfl rfl rfl rfl ?_ | refine A_not rfl rfl _ _ rfl rfl ?_ | (refine kL 1614 rfl ?_; refine A_build rfl rfl 50 _ rfl ud50 inf50 [(0, 1), (1, 1), (2, 1), (3, 1)] (by kernel_rfl) (zs := [.t (.v (.int .i64 0)), .t (.v (.int .i64 0)), .t (.v (.int .i64 0)), .t (.v (.int .i64 0))]) rfl (.cons rfl .nil) (cs := [_, _, _, _]) rfl ?_) | refine A_store rfl rfl 50 _ _ rfl inf50 rfl rfl rfl rfl (Nat.le_of_ble_eq_true rfl) qN qN ?_ | (refine kL 3114 rfl ?_; refine A_callio rfl rfl Try.func97 (by kernel_rfl) (by kernel_rfl) rfl [0, 1, 2] (by decide) (cT) (by repeat (first | exact .nil | refine .cons rfl ?_ ?_ | exact .row | refine .box ?_ | (first | exact .sel rfl | refine .cons ?_ ?_ | exact .t _))) (by ((repeat (first | exact .nil | exact .ptr rfl | refine .cons ?_ ?_ | exact .lst _)); (first | done | fail))) qL (by (try simp only [setSel, upO, upA, upF, gIO, List.map_cons, List.map_nil, List.drop_succ_cons, List.drop_zero, List.drop_nil, List.length_cons, List.length_nil, List.set_cons_zero, List.set_cons_succ, List.cons_append, List.nil_append, List.append_nil, List.getElem?_cons_zero, List.getElem?_cons_succ, List.getElem?_nil, Nat.zero_add, Nat.reduceAdd, Nat.reduceSub]); rfl) (by (try simp only [setSel, upO, upA, upF, gIO, List.map_cons, List.map_nil, List.drop_succ_cons, List.drop_zero, List.drop_nil, List.length_cons, List.length_nil, List.set_cons_zero, List.set_cons_succ, List.cons_append, List.nil_append, List.append_nil, List.getElem?_cons_zero, List.getElem?_cons_succ, List.getElem?_nil, Nat.zero_add, Nat.reduceAdd, Nat.reduceSub]); rfl) ?_) | refine AL.nil ?_)) | ((with_reducible refine kRG ?_); (first | (refine kR 0 rfl ?_; (first | refine R_mt rfl rfl rfl rfl ?_ | refine R_move rfl rfl _ (.inl rfl) (y := .ptr _ _) rfl ?_ | refine R_move rfl rfl _ (.inl rfl) (y := .tup _) rfl ?_)) | (refine kR 31 rfl ?_; refine R_nilc rfl rfl _ rfl rfl rfl ?_) | refine R_field rfl rfl 70 _ 0 rfl ud70 rfl inf29 (by decide) 0 rfl rfl ?_ | (refine kR 932 rfl ?_; (first | refine R_field rfl rfl 29 _ 1 rfl ud29 rfl inf25 (by decide) 1 rfl rfl ?_ | refine R_field rfl rfl 29 _ 2 rfl ud29 rfl inf26 (by decide) 2 rfl rfl ?_)) | refine R_load rfl rfl 25 _ rfl ud25 rfl rfl rfl rfl ?_ | (refine kR 806 rfl ?_; refine R_idx_sl rfl rfl 25 _ _ rfl ud25 inf66 rfl rfl (by (simp; omega)) rfl (by omega) _ (by with_reducible exact Int.toNat_natCast _) (by omega) ?_) | (refine kR 2114 rfl ?_; (first | refine R_load_agg rfl rfl 66 _ rfl ud66 rfl inf66 rfl rfl (us' := [_, _, _, _, _]) rfl rfl ?_ | refine R_load_rp_agg rfl rfl 66 _ rfl ud66 rfl inf66 rfl rfl (by exact map_get (by assumption)) (us' := [_, _, _, _, _]) rfl rfl ?_)) | refine R_load rfl rfl 26 _ rfl ud26 rfl rfl rfl rfl ?_ | (refine kR 3082 rfl ?_; (refine R_cl rfl rfl Try.func96 rfl (cS) ?_; refine ⟨0, _, _, _, rfl, qU, qU, qZ, ?_⟩)) | (refine kR 18 rfl ?_; (first | refine R_extract rfl rfl _ 0 rfl rfl rfl ?_ | refine R_extract rfl rfl _ 1 rfl rfl rfl ?_ | refine R_extract rfl rfl _ 2 rfl rfl rfl ?_ | refine R_extract rfl rfl _ 3 rfl rfl rfl ?_)) | refine R_alloc (N := 4) rfl rfl 66 rfl inf66 (cs := [.t (.v (.int .i64 0)), .t (.v (.int .i64 0)), .t (.v (.bool false)), .t (.v (.bool false)), AV.nl]) rfl rfl qN ?_ | (refine kR 2115 rfl ?_; (first | refine R_store rfl rfl 66 _ _ rfl inf66 rfl rfl rfl rfl (Nat.le_of_ble_eq_true rfl) qN qN ?_ | refine R_store_rp rfl rfl 66 _ _ rfl inf66 (by decide) rfl rfl (by exact map_get (by assumption)) rfl rfl rfl (Nat.le_of_ble_eq_true rfl) (by exact map_set (f := tCh) (x := ⟨g1, g2, g3, g4, gb⟩)) qN ?_)) | refine R_as rfl rfl rfl rfl ?_ | refine R_store rfl rfl 26 _ _ rfl inf26 rfl rfl rfl rfl (Nat.le_of_ble_eq_true rfl) qN qN ?_ | refine RG.nil ⟨by kernel_rfl, ?_⟩)) | (with_reducible (first | refine wk0 ?_ | refine wk2 ?_ | refine wk9 ?_ | refine wkb ?_ | refine wkd ?_)) | refine kcf rfl ?_ | with_reducible refine AW.at_region _ ?_ | refine AW.at_draw 4 mixed 1 [[], [0], [0, 1], [0, 1, 2], [0, 1, 2, 3], [], [0, 1, 2, 3, 4, 5], [0, 1, 2, 3, 4, 5, 6], [], [], [9], [9, 10], [9, 10, 11], [9, 10, 11, 12], [0, 1, 2, 3, 4, 5, 6, 7, 8, 9, 10, 11, 12, 13], [0, 1, 2, 3, 4, 5, 6, 7, 8, 9, 10, 11, 12, 13, 14], [0, 1, 2, 3, 4, 5, 6, 7, 8, 9, 10, 11, 12, 13, 14, 15], [0, 1, 2, 3, 4, 5, 6, 7, 8, 9, 10, 11, 12, 13, 14, 15], [0, 1, 2, 3, 4, 5, 6, 7, 8, 9, 10, 11, 12, 13, 14, 15], [0, 1, 2, 3, 4, 5, 6, 7, 8, 9, 10, 11, 12, 13, 14, 15], [], [0, 1, 2, 3, 4, 5, 6, 7, 8, 9, 10, 11, 12, 13, 14, 15, 16, 20], [0, 1, 2, 3, 4, 5, 6, 7, 8, 9, 10, 11, 12, 13, 14, 15, 16, 17, 20, 21], [0, 1, 2, 3, 4, 5, 6, 7, 8, 9, 10, 11, 12, 13, 14, 15, 16, 17, 18, 20, 21, 22], [0, 1, 2, 3, 4, 5, 6, 7, 8, 9, 10, 11, 12, 13, 14, 15, 16, 17, 18, 19, 20, 21, 22, 23]] qR ?_ | refine AW.at_draw 5 mixed 0 [[], [0], [0, 1], [0, 1, 2], [0, 1, 2, 3], [], [], [], [], [0, 1, 2, 3, 4, 5, 7], [0, 1, 2, 3, 4, 5, 7, 9], [0, 1, 2, 3, 4, 5, 6, 7, 8, 9, 10], [0, 1, 2, 3, 4, 5, 6, 7, 8, 9, 10, 11], [0, 1, 2, 3, 4, 5, 6, 7, 8, 9, 10, 11, 12], [0, 1, 2, 3, 4, 5, 6, 7, 8, 9, 10, 11, 12, 13]] qR ?_)
    all_goals first | (exfalso; omega) | (exact Fin.q Try.results64 (.cons (.agg rfl rfl ud50 rfl inf50 (us := [_, _, _, _]) rfl rfl) .nil) [])
set_option maxHeartbeats 8000000 in
theorem look_c (c : DConf) (m k : Nat) (h : DHall) (t n : Int) (q : DReq) (hx : sI q.arg) (hm : h.chans.length = m) (hk : h.done.length = k) (hm1 : m ≤ 2932031007402) :
    Cio Try.prog 65 [.ptr 0 0, aRq q] (stH c m k h t n) (aR (lookH h q)) (stH c m k h t n) := by
  have h1 : (h.chans.map tCh).length = m := by rw [List.length_map, hm]
  have h1k : (h.done.map tR).length = k := by rw [List.length_map, hk]
  obtain ⟨qk, qa, qv, qd, cs⟩ := q
  dsimp only at hx
  have cF := find_c h qa hx (by omega)
  unfold lookH
  dsimp only
  cases hf : fndOk h qa
  · rw [if_neg (by simp)]
    rw [hf, fnd_no hf] at cF
    dsimp only [stH, stB, aR, aRq]
    refine Cio.enter' Try.func65 rfl Try.ntmps65 rfl qM ?_
    repeat' (first | ((with_reducible refine kAL ?_); (first | refine A_box rfl rfl 32 _ rfl rfl (.push qL qN) ?_ | refine A_alloc rfl rfl 50 rfl inf50 (cs := [.t (.v (.int .i64 0)), .t (.v (.int .i64 0)), .t (.v (.int .i64 0)), .t (.v (.int .i64 0))]) rfl (.push qL qN) ?_ | refine A_mt rfl rfl rfl rfl ?_ | refine A_not rfl rfl _ _ rfl rfl ?_ | refine A_as rfl rfl rfl rfl ?_ | (refine kL 1614 rfl ?_; refine A_build rfl rfl 50 _ rfl ud50 inf50 [(0, 1), (1, 1), (2, 1), (3, 1)] (by kernel_rfl) (zs := [.t (.v (.int .i64 0)), .t (.v (.int .i64 0)), .t (.v (.int .i64 0)), .t (.v (.int .i64 0))]) rfl (.cons rfl .nil) (cs := [_, _, _, _]) rfl ?_) | refine A_store rfl rfl 50 _ _ rfl inf50 rfl rfl rfl rfl (Nat.le_of_ble_eq_true rfl) qN qN ?_ | refine AL.nil ?_)) | ((with_reducible refine kRG ?_); (first | (refine kR 0 rfl ?_; (first | refine R_move rfl rfl _ (.inl rfl) (y := .ptr _ _) rfl ?_ | refine R_move rfl rfl _ (.inl rfl) (y := .tup _) rfl ?_)) | (refine kR 31 rfl ?_; refine R_nilc rfl rfl _ rfl rfl rfl ?_) | refine R_field rfl rfl 70 _ 0 rfl ud70 rfl inf29 (by decide) 0 rfl rfl ?_ | refine R_load_agg rfl rfl 29 _ rfl ud29 rfl inf29 rfl rfl (us' := [_, _, _, _]) rfl rfl ?_ | refine R_field rfl rfl 32 _ 1 rfl ud32 rfl inf3 (by decide) 1 rfl rfl ?_ | refine R_load rfl rfl 3 _ rfl ud3 rfl rfl rfl rfl ?_ | (refine kR 618 rfl ?_; (refine R_cl rfl rfl Try.func19 rfl (cF) ?_; refine ⟨0, _, _, _, rfl, qU, qU, qZ, ?_⟩)) | (refine kR 18 rfl ?_; (first | refine R_extract rfl rfl _ 0 rfl rfl rfl ?_ | refine R_extract rfl rfl _ 1 rfl rfl rfl ?_)) | refine R_as rfl rfl rfl rfl ?_ | refine RG.nil ⟨by kernel_rfl, ?_⟩)) | (with_reducible (first | refine wk0 ?_ | refine wk1 ?_ | refine wk2 ?_ | refine wk3 ?_ | refine wk6 ?_ | refine wk9 ?_ | refine wkb ?_)) | refine kct rfl ?_ | with_reducible refine AW.at_region _ ?_ | refine AW.at_draw 1 mixed 2 [[], [0], [0, 1], [0, 1, 2], [], [4], [0, 1, 2, 3, 4, 5], [0, 1, 2, 3, 4, 5, 6], [0, 1, 2, 3, 4, 5, 6, 7], [0, 1, 2, 3, 4, 5, 6, 7], [0, 1, 2, 3, 4, 5, 6, 7, 8], [0, 1, 2, 3, 4, 5, 6, 7, 8, 9, 10]] qR ?_)
    all_goals first | (exfalso; omega) | (exact Fin.q Try.results65 (.cons (.agg rfl rfl ud50 rfl inf50 (us := [_, _, _, _]) rfl rfl) .nil) [])
  · obtain ⟨j, ch, e1, e2, hc, hu, hgn, e3, e4, e5⟩ := fnd_yes hf
    rw [if_pos rfl, e3, e4]
    rw [hf, e3] at cF
    obtain ⟨c1, c2, c3, c4, cb⟩ := ch
    have hbl : (cb.map tI).length = cb.length := List.length_map _
    by_cases hk6 : qk = 6
    · rw [if_pos hk6]
      dsimp only [stH, stB, aR, aRq]
      refine Cio.enter' Try.func65 rfl Try.ntmps65 rfl qM ?_
      repeat' (first | ((with_reducible refine kAL ?_); (first | refine A_box rfl rfl 32 _ rfl rfl (.push qL qN) ?_ | refine A_alloc rfl rfl 50 rfl inf50 (cs := [.t (.v (.int .i64 0)), .t (.v (.int .i64 0)), .t (.v (.int .i64 0)), .t (.v (.int .i64 0))]) rfl (.push qL qN) ?_ | (refine kL 0 rfl ?_; (first | refine A_mt rfl rfl rfl rfl ?_ | refine A_move rfl rfl _ (.inl rfl) (y := .ptr _ _) rfl ?_)) | refine A_not rfl rfl _ _ rfl rfl ?_ | refine A_as rfl rfl rfl rfl ?_ | (refine kL 1614 rfl ?_; refine A_build rfl rfl 50 _ rfl ud50 inf50 [(0, 1), (1, 1), (2, 1), (3, 1)] (by kernel_rfl) (zs := [.t (.v (.int .i64 0)), .t (.v (.int .i64 0)), .t (.v (.int .i64 0)), .t (.v (.int .i64 0))]) rfl (.cons rfl .nil) (cs := [_, _, _, _]) rfl ?_) | refine A_store rfl rfl 50 _ _ rfl inf50 rfl rfl rfl rfl (Nat.le_of_ble_eq_true rfl) qN qN ?_ | refine A_field rfl rfl 32 _ 0 rfl ud32 rfl inf3 (by decide) 0 rfl rfl ?_ | (refine kL 98 rfl ?_; (first | refine A_load rfl rfl 3 _ rfl ud3 rfl rfl rfl rfl ?_ | refine A_load_rp rfl rfl 3 _ rfl ud3 rfl rfl rfl (by exact map_get (by assumption)) rfl ?_)) | refine A_cmp (d := 24) rfl rfl (c := true) .eql 3 3 _ _ rfl rfl rfl (by exact congrArg some (decide_eq_true (by (try (dsimp only; fail_if_success done)); omega))) ?_ | (refine kL 31 rfl ?_; refine A_nilc rfl rfl _ rfl rfl rfl ?_) | refine A_field rfl rfl 70 _ 0 rfl ud70 rfl inf29 (by decide) 0 rfl rfl ?_ | refine A_field rfl rfl 29 _ 1 rfl ud29 rfl inf25 (by decide) 1 rfl rfl ?_ | refine A_load rfl rfl 25 _ rfl ud25 rfl rfl rfl rfl ?_ | (refine kL 806 rfl ?_; refine A_idx_sl rfl rfl 25 _ _ rfl ud25 inf66 rfl rfl (by (simp; omega)) rfl (by omega) _ (by with_reducible exact Int.toNat_natCast _) (by omega) ?_) | refine A_field rfl rfl 66 _ 1 rfl ud66 rfl inf3 (by decide) 1 rfl rfl ?_ | refine AL.nil ?_)) | ((with_reducible refine kRG ?_); (first | (refine kR 0 rfl ?_; (first | refine R_move rfl rfl _ (.inl rfl) (y := .ptr _ _) rfl ?_ | refine R_move rfl rfl _ (.inl rfl) (y := .tup _) rfl ?_)) | (refine kR 31 rfl ?_; refine R_nilc rfl rfl _ rfl rfl rfl ?_) | refine R_field rfl rfl 70 _ 0 rfl ud70 rfl inf29 (by decide) 0 rfl rfl ?_ | refine R_load_agg rfl rfl 29 _ rfl ud29 rfl inf29 rfl rfl (us' := [_, _, _, _]) rfl rfl ?_ | refine R_field rfl rfl 32 _ 1 rfl ud32 rfl inf3 (by decide) 1 rfl rfl ?_ | refine R_load rfl rfl 3 _ rfl ud3 rfl rfl rfl rfl ?_ | (refine kR 618 rfl ?_; (refine R_cl rfl rfl Try.func19 rfl (cF) ?_; refine ⟨0, _, _, _, rfl, qU, qU, qZ, ?_⟩)) | (refine kR 18 rfl ?_; (first | refine R_extract rfl rfl _ 0 rfl rfl rfl ?_ | refine R_extract rfl rfl _ 1 rfl rfl rfl ?_)) | refine R_as rfl rfl rfl rfl ?_ | refine RG.nil ⟨by kernel_rfl, ?_⟩)) | (with_reducible (first | refine wk0 ?_ | refine wk1 ?_ | refine wk2 ?_ | refine wk3 ?_ | refine wk6 ?_ | refine wk9 ?_ | refine wkb ?_)) | refine kct rfl ?_ | refine kcf rfl ?_ | with_reducible refine AW.at_region _ ?_ | refine AW.at_draw 1 mixed 0 [[], [0], [0, 1], [0, 1, 2], [], [4], [0, 1, 2, 3, 4, 5], [0, 1, 2, 3, 4, 5, 6], [0, 1, 2, 3, 4, 5, 6, 7], [0, 1, 2, 3, 4, 5, 6, 7], [0, 1, 2, 3, 4, 5, 6, 7, 8], [0, 1, 2, 3, 4, 5, 6, 7, 8, 9, 10]] qR ?_)
      all_goals first | (exfalso; omega) | (exact Fin.q Try.results65 (.cons (.agg rfl rfl ud50 rfl inf50 (us := [_, _, _, _]) rfl rfl) .nil) [])
    · rw [if_neg hk6]
      dsimp only [stH, stB, aR, aRq]
      refine Cio.enter' Try.func65 rfl Try.ntmps65 rfl qM ?_
      repeat' (first | ((with_reducible refine kAL ?_); (first | refine A_box rfl rfl 32 _ rfl rfl (.push qL qN) ?_ | refine A_alloc rfl rfl 50 rfl inf50 (cs := [.t (.v (.int .i64 0)), .t (.v (.int .i64 0)), .t (.v (.int .i64 0)), .t (.v (.int .i64 0))]) rfl (.push qL qN) ?_ | (refine kL 0 rfl ?_; (first | refine A_mt rfl rfl rfl rfl ?_ | refine A_move rfl rfl _ (.inl rfl) (y := .ptr _ _) rfl ?_)) | refine A_not rfl rfl _ _ rfl rfl ?_ | refine A_as rfl rfl rfl rfl ?_ | (refine kL 1614 rfl ?_; refine A_build rfl rfl 50 _ rfl ud50 inf50 [(0, 1), (1, 1), (2, 1), (3, 1)] (by kernel_rfl) (zs := [.t (.v (.int .i64 0)), .t (.v (.int .i64 0)), .t (.v (.int .i64 0)), .t (.v (.int .i64 0))]) rfl (.cons rfl .nil) (cs := [_, _, _, _]) rfl ?_) | refine A_store rfl rfl 50 _ _ rfl inf50 rfl rfl rfl rfl (Nat.le_of_ble_eq_true rfl) qN qN ?_ | refine A_field rfl rfl 32 _ 0 rfl ud32 rfl inf3 (by decide) 0 rfl rfl ?_ | refine A_load rfl rfl 3 _ rfl ud3 rfl rfl rfl rfl ?_ | refine A_cmp (d := 24) rfl rfl (c := false) .eql 3 3 _ _ rfl rfl rfl (by exact congrArg some (decide_eq_false (by (try (dsimp only; fail_if_success done)); omega))) ?_ | (refine kL 31 rfl ?_; refine A_nilc rfl rfl _ rfl rfl rfl ?_) | refine A_field rfl rfl 70 _ 0 rfl ud70 rfl inf29 (by decide) 0 rfl rfl ?_ | refine A_field rfl rfl 29 _ 1 rfl ud29 rfl inf25 (by decide) 1 rfl rfl ?_ | refine A_load rfl rfl 25 _ rfl ud25 rfl rfl rfl rfl ?_ | (refine kL 806 rfl ?_; refine A_idx_sl rfl rfl 25 _ _ rfl ud25 inf66 rfl rfl (by (simp; omega)) rfl (by omega) _ (by with_reducible exact Int.toNat_natCast _) (by omega) ?_) | refine A_field rfl rfl 66 _ 4 rfl ud66 rfl inf22 (by decide) 4 rfl rfl ?_ | refine A_load_rp rfl rfl 22 _ rfl ud22 rfl rfl rfl (by exact map_get (by assumption)) rfl ?_ | refine A_len rfl rfl 22 _ rfl ud22 rfl ?_ | refine AL.nil ?_)) | ((with_reducible refine kRG ?_); (first | (refine kR 0 rfl ?_; (first | refine R_move rfl rfl _ (.inl rfl) (y := .ptr _ _) rfl ?_ | refine R_move rfl rfl _ (.inl rfl) (y := .tup _) rfl ?_)) | (refine kR 31 rfl ?_; refine R_nilc rfl rfl _ rfl rfl rfl ?_) | refine R_field rfl rfl 70 _ 0 rfl ud70 rfl inf29 (by decide) 0 rfl rfl ?_ | refine R_load_agg rfl rfl 29 _ rfl ud29 rfl inf29 rfl rfl (us' := [_, _, _, _]) rfl rfl ?_ | refine R_field rfl rfl 32 _ 1 rfl ud32 rfl inf3 (by decide) 1 rfl rfl ?_ | refine R_load rfl rfl 3 _ rfl ud3 rfl rfl rfl rfl ?_ | (refine kR 618 rfl ?_; (refine R_cl rfl rfl Try.func19 rfl (cF) ?_; refine ⟨0, _, _, _, rfl, qU, qU, qZ, ?_⟩)) | (refine kR 18 rfl ?_; (first | refine R_extract rfl rfl _ 0 rfl rfl rfl ?_ | refine R_extract rfl rfl _ 1 rfl rfl rfl ?_)) | refine R_as rfl rfl rfl rfl ?_ | refine RG.nil ⟨by kernel_rfl, ?_⟩)) | (with_reducible (first | refine wk0 ?_ | refine wk1 ?_ | refine wk2 ?_ | refine wk5 ?_ | refine wk9 ?_ | refine wkb ?_ | refine wkd ?_)) | refine kcf rfl ?_ | with_reducible refine AW.at_region _ ?_ | refine AW.at_draw 1 mixed 0 [[], [0], [0, 1], [0, 1, 2], [], [4], [0, 1, 2, 3, 4, 5], [0, 1, 2, 3, 4, 5, 6], [0, 1, 2, 3, 4, 5, 6, 7], [0, 1, 2, 3, 4, 5, 6, 7], [0, 1, 2, 3, 4, 5, 6, 7, 8], [0, 1, 2, 3, 4, 5, 6, 7, 8, 9, 10]] qR ?_)
      all_goals first | (exfalso; omega) | ((refine Fin.mkv (rs := _) Try.results65 (.cons (.agg rfl rfl ud50 rfl inf50 (us := [_, _, _, _]) rfl rfl) .nil) [] (by decide) rfl ?_ ?_ ?_ <;> repeat' (skip; first | exact .nil | refine .cons rfl ?_ ?_ | refine .cons ?_ ?_ | refine .row ?_ | refine .rset ?_ | refine .box ?_ | exact .gone | refine .aggL ?_ | refine .tupL ?_ | refine .old rfl ?_ | refine .new rfl rfl rfl ?_ | exact .nl | exact .optr rfl | exact .nptr rfl rfl rfl | refine .t ?_ | exact .any _ | rfl)))
      all_goals (rw [hbl])
set_option maxHeartbeats 16000000 in
theorem cancel_c (c : DConf) (m k : Nat) (h : DHall) (me n t v : Int) (hm : h.chans.length = m) (hk : h.done.length = k) (hh : okHl h) :
    Cio Try.prog 66 [.ptr 0 0, i64 t, i64 v] (stH c m k h me n) (aR (cancelH h me t v).2) (stH c m k (cancelH h me t v).1 me n) := by
  have h1 : (h.waits.map tWt).length = h.waits.length := List.length_map _
  have hk1 := hh.d
  have hw0 := hh.w.1
  unfold cancelH mayCut
  by_cases ht : 0 ≤ t ∧ t < h.waits.length
  · obtain ⟨j, rfl⟩ : ∃ j : Nat, t = j := ⟨t.toNat, by omega⟩
    obtain ⟨⟨on, tk, sq, cs⟩, hw⟩ : ∃ w, h.waits[j]? = some w := ⟨_, List.getElem?_eq_getElem (by omega)⟩
    rw [Int.toNat_natCast, getD_of hw]
    cases on
    · rw [cutOk_off hw rfl, Bool.false_and, Bool.false_and, if_neg (by simp)]
      by_cases hme : (j : Int) = me
      · subst hme
        dsimp only [stH, stB, aR]
        refine Cio.enter' Try.func66 rfl Try.ntmps66 rfl qM ?_
        repeat' (first | ((with_reducible refine kAL ?_); (first | refine A_alloc rfl rfl 50 rfl inf50 (cs := [.t (.v (.int .i64 0)), .t (.v (.int .i64 0)), .t (.v (.int .i64 0)), .t (.v (.int .i64 0))]) rfl (.push qL qN) ?_ | (refine kL 0 rfl ?_; (first | refine A_mt rfl rfl rfl rfl ?_ | refine A_move rfl rfl _ (.inl rfl) (y := .ptr _ _) rfl ?_)) | (refine kL 105 rfl ?_; (first | refine A_cmp (d := 8) rfl rfl (c := false) .lss 3 3 _ _ rfl rfl rfl (by exact congrArg some (decide_eq_false (by (try (dsimp only; fail_if_success done)); omega))) ?_ | refine A_cmp (d := 17) rfl rfl (c := false) .geq 3 3 _ _ rfl rfl rfl (by exact congrArg some (decide_eq_false (by (try (dsimp only; fail_if_success done)); omega))) ?_ | refine A_cmp (d := 25) rfl rfl (c := true) .eql 3 3 _ _ rfl rfl rfl (by exact congrArg some (decide_eq_true (by (try (dsimp only; fail_if_success done)); omega))) ?_)) | (refine kL 31 rfl ?_; refine A_nilc rfl rfl _ rfl rfl rfl ?_) | (refine kL 2244 rfl ?_; (first | refine A_field rfl rfl 70 _ 0 rfl ud70 rfl inf29 (by decide) 0 rfl rfl ?_ | refine A_field rfl rfl 70 _ 2 rfl ud70 rfl inf3 (by decide) 15 rfl rfl ?_)) | refine A_field rfl rfl 29 _ 2 rfl ud29 rfl inf26 (by decide) 2 rfl rfl ?_ | refine A_load rfl rfl 26 _ rfl ud26 rfl rfl rfl rfl ?_ | refine A_len rfl rfl 26 _ rfl ud26 rfl ?_ | (refine kL 19 rfl ?_; (first | refine A_pkt rfl rfl _ _ _ rfl rfl rfl ?_ | refine A_pkf rfl rfl _ _ _ rfl rfl rfl ?_)) | refine A_load rfl rfl 3 _ rfl ud3 rfl rfl rfl rfl ?_ | (refine kL 1614 rfl ?_; refine A_build rfl rfl 50 _ rfl ud50 inf50 [(0, 1), (1, 1), (2, 1), (3, 1)] (by kernel_rfl) (zs := [.t (.v (.int .i64 0)), .t (.v (.int .i64 0)), .t (.v (.int .i64 0)), .t (.v (.int .i64 0))]) rfl (.cons rfl .nil) (cs := [_, _, _, _]) rfl ?_) | refine A_store rfl rfl 50 _ _ rfl inf50 rfl rfl rfl rfl (Nat.le_of_ble_eq_true rfl) qN qN ?_ | refine AL.nil ?_ | refine AL.skip rfl rfl ?_)) | with_reducible refine AW.at_region _ ?_ | (with_reducible (first | refine wk0 ?_ | refine wk2 ?_ | refine wk3 ?_ | refine wk9 ?_ | refine wkb ?_)) | refine kct rfl ?_)
        all_goals first | (exfalso; omega) | (exact Fin.q Try.results66 (.cons (.agg rfl rfl ud50 rfl inf50 (us := [_, _, _, _]) rfl rfl) .nil) [])
      · dsimp only [stH, stB, aR]
        refine Cio.enter' Try.func66 rfl Try.ntmps66 rfl qM ?_
        repeat' (first | ((with_reducible refine kAL ?_); (first | refine A_alloc rfl rfl 50 rfl inf50 (cs := [.t (.v (.int .i64 0)), .t (.v (.int .i64 0)), .t (.v (.int .i64 0)), .t (.v (.int .i64 0))]) rfl (.push qL qN) ?_ | (refine kL 0 rfl ?_; (first | refine A_mt rfl rfl rfl rfl ?_ | refine A_move rfl rfl _ (.inl rfl) (y := .ptr _ _) rfl ?_)) | (refine kL 105 rfl ?_; (first | refine A_cmp (d := 8) rfl rfl (c := false) .lss 3 3 _ _ rfl rfl rfl (by exact congrArg some (decide_eq_false (by (try (dsimp only; fail_if_success done)); omega))) ?_ | refine A_cmp (d := 17) rfl rfl (c := false) .geq 3 3 _ _ rfl rfl rfl (by exact congrArg some (decide_eq_false (by (try (dsimp only; fail_if_success done)); omega))) ?_ | refine A_cmp (d := 25) rfl rfl (c := false) .eql 3 3 _ _ rfl rfl rfl (by exact congrArg some (decide_eq_false (by (try (dsimp only; fail_if_success done)); omega))) ?_)) | (refine kL 31 rfl ?_; refine A_nilc rfl rfl _ rfl rfl rfl ?_) | (refine kL 2244 rfl ?_; (first | refine A_field rfl rfl 70 _ 0 rfl ud70 rfl inf29 (by decide) 0 rfl rfl ?_ | refine A_field rfl rfl 70 _ 2 rfl ud70 rfl inf3 (by decide) 15 rfl rfl ?_)) | refine A_field rfl rfl 29 _ 2 rfl ud29 rfl inf26 (by decide) 2 rfl rfl ?_ | refine A_load rfl rfl 26 _ rfl ud26 rfl rfl rfl rfl ?_ | refine A_len rfl rfl 26 _ rfl ud26 rfl ?_ | (refine kL 19 rfl ?_; (first | refine A_pkt rfl rfl _ _ _ rfl rfl rfl ?_ | refine A_pkf rfl rfl _ _ _ rfl rfl rfl ?_)) | refine A_load rfl rfl 3 _ rfl ud3 rfl rfl rfl rfl ?_ | (refine kL 838 rfl ?_; refine A_idx rfl rfl 26 _ _ rfl ud26 inf43 (by decide) (by exact .inr rfl) rfl (by omega) _ (by with_reducible exact Int.toNat_natCast _) (by exact map_get (by assumption)) rfl (cs' := [_, _, _, _]) rfl ?_) | refine A_field rfl rfl 43 _ 0 rfl ud43 rfl inf4 (by decide) 0 rfl rfl ?_ | refine A_load_lp rfl rfl 4 _ rfl ud4 rfl rfl rfl ?_ | refine A_not rfl rfl _ _ rfl rfl ?_ | (refine kL 1614 rfl ?_; refine A_build rfl rfl 50 _ rfl ud50 inf50 [(0, 1), (1, 1), (2, 1), (3, 1)] (by kernel_rfl) (zs := [.t (.v (.int .i64 0)), .t (.v (.int .i64 0)), .t (.v (.int .i64 0)), .t (.v (.int .i64 0))]) rfl (.cons rfl .nil) (cs := [_, _, _, _]) rfl ?_) | refine A_store rfl rfl 50 _ _ rfl inf50 rfl rfl rfl rfl (Nat.le_of_ble_eq_true rfl) qN qN ?_ | refine AL.nil ?_ | refine AL.skip rfl rfl ?_)) | with_reducible refine AW.at_region _ ?_ | (with_reducible (first | refine wk0 ?_ | refine wk2 ?_ | refine wk3 ?_ | refine wk9 ?_ | refine wkb ?_)) | refine kct rfl ?_)
        all_goals first | (exfalso; omega) | (exact Fin.q Try.results66 (.cons (.agg rfl rfl ud50 rfl inf50 (us := [_, _, _, _]) rfl rfl) .nil) [])
    · rw [cutOk_yes hw rfl, Bool.true_and]
      by_cases hme : (j : Int) = me
      · subst hme
        rw [decide_eq_false (by simp), Bool.false_and, if_neg (by simp)]
        dsimp only [stH, stB, aR]
        refine Cio.enter' Try.func66 rfl Try.ntmps66 rfl qM ?_
        repeat' (first | ((with_reducible refine kAL ?_); (first | refine A_alloc rfl rfl 50 rfl inf50 (cs := [.t (.v (.int .i64 0)), .t (.v (.int .i64 0)), .t (.v (.int .i64 0)), .t (.v (.int .i64 0))]) rfl (.push qL qN) ?_ | (refine kL 0 rfl ?_; (first | refine A_mt rfl rfl rfl rfl ?_ | refine A_move rfl rfl _ (.inl rfl) (y := .ptr _ _) rfl ?_)) | (refine kL 105 rfl ?_; (first | refine A_cmp (d := 8) rfl rfl (c := false) .lss 3 3 _ _ rfl rfl rfl (by exact congrArg some (decide_eq_false (by (try (dsimp only; fail_if_success done)); omega))) ?_ | refine A_cmp (d := 17) rfl rfl (c := false) .geq 3 3 _ _ rfl rfl rfl (by exact congrArg some (decide_eq_false (by (try (dsimp only; fail_if_success done)); omega))) ?_ | refine A_cmp (d := 25) rfl rfl (c := true) .eql 3 3 _ _ rfl rfl rfl (by exact congrArg some (decide_eq_true (by (try (dsimp only; fail_if_success done)); omega))) ?_)) | (refine kL 31 rfl ?_; refine A_nilc rfl rfl _ rfl rfl rfl ?_) | (refine kL 2244 rfl ?_; (first | refine A_field rfl rfl 70 _ 0 rfl ud70 rfl inf29 (by decide) 0 rfl rfl ?_ | refine A_field rfl rfl 70 _ 2 rfl ud70 rfl inf3 (by decide) 15 rfl rfl ?_)) | refine A_field rfl rfl 29 _ 2 rfl ud29 rfl inf26 (by decide) 2 rfl rfl ?_ | refine A_load rfl rfl 26 _ rfl ud26 rfl rfl rfl rfl ?_ | refine A_len rfl rfl 26 _ rfl ud26 rfl ?_ | (refine kL 19 rfl ?_; (first | refine A_pkt rfl rfl _ _ _ rfl rfl rfl ?_ | refine A_pkf rfl rfl _ _ _ rfl rfl rfl ?_)) | refine A_load rfl rfl 3 _ rfl ud3 rfl rfl rfl rfl ?_ | (refine kL 1614 rfl ?_; refine A_build rfl rfl 50 _ rfl ud50 inf50 [(0, 1), (1, 1), (2, 1), (3, 1)] (by kernel_rfl) (zs := [.t (.v (.int .i64 0)), .t (.v (.int .i64 0)), .t (.v (.int .i64 0)), .t (.v (.int .i64 0))]) rfl (.cons rfl .nil) (cs := [_, _, _, _]) rfl ?_) | refine A_store rfl rfl 50 _ _ rfl inf50 rfl rfl rfl rfl (Nat.le_of_ble_eq_true rfl) qN qN ?_ | refine AL.nil ?_ | refine AL.skip rfl rfl ?_)) | with_reducible refine AW.at_region _ ?_ | (with_reducible (first | refine wk0 ?_ | refine wk2 ?_ | refine wk3 ?_ | refine wk9 ?_ | refine wkb ?_)) | refine kct rfl ?_)
        all_goals first | (exfalso; omega) | (exact Fin.q Try.results66 (.cons (.agg rfl rfl ud50 rfl inf50 (us := [_, _, _, _]) rfl rfl) .nil) [])
      · rw [decide_eq_true hme, Bool.true_and]
        dsimp only
        by_cases hv : sq = v
        · subst hv
          rw [decide_eq_true rfl, if_pos rfl]
          have cX0 := wcut_c h.waits j hh.w
          have hcl : (cutW h.waits j).length = h.waits.length := cutW_len ..
          rw [cutOk_yes hw rfl] at cX0
          have cT := tell_c c m k ⟨h.ticket, h.chans, cutW h.waits j, h.done⟩ me n [⟨j, ⟨sq, 0, 11, 0⟩⟩] hk (by simp) (by omega)
          dsimp only at cT ⊢
          generalize cutW h.waits j = W at *
          have cX : Cd Try.prog 98 [.ln (h.waits.map tWt), i64 j] (.tup [.t (.lst (W.map tWt)), bo true]) [] := by have cX0' := Cd.frz cX0 0 rfl (by repeat' (first | exact FzL.nil | apply FzL.cons | exact FzR.nlt | exact FzR.all (by first | rfl | (simp <;> fail) | (simp; omega)) | exact FzR.sl (by first | exact Nat.le_refl _ | (simp <;> fail) | (simp; omega)) | apply FzR.aggL | exact FzR.same _)) rfl; exact Cd.drop cX0' rfl
          rw [show tellL h.done [⟨j, ⟨sq, 0, 11, 0⟩⟩] = noteL h.done j ⟨sq, 0, 11, 0⟩ from rfl] at cT
          dsimp only [stH, stB, aR] at *
          first | refine Cd.enter' Try.func66 rfl Try.ntmps66 rfl ?_ | refine Cio.enter' Try.func66 rfl Try.ntmps66 rfl qM ?_ | refine C.enter' Try.func66 rfl Try.ntmps66 rfl qM ?_
          repeat' (first | ((with_reducible refine kAL ?_); (first | (refine kL 3055 rfl ?_; (refine A_lit (d := 72) rfl rfl 95 1 _ rfl ud95 inf124 (.cons rfl .nil) (els := [[_, _, _, _, _]]) rfl (by exact (rfl : _ = List.map tTd [⟨j, ⟨sq, 0, 11, 0⟩⟩])) rfl (Nat.ne_of_beq_eq_false rfl) (Nat.le_of_ble_eq_true rfl) (Nat.le_of_ble_eq_true rfl) (.push qL qN) ?_; (try refine AL.wk (Wk.freeze 4 rfl 72 rfl (by exact .all (by rfl)) qN) ?_))) | refine A_alloc rfl rfl 50 rfl inf50 (cs := [.t (.v (.int .i64 0)), .t (.v (.int .i64 0)), .t (.v (.int .i64 0)), .t (.v (.int .i64 0))]) rfl (.push qL qN) ?_ | (refine kL 0 rfl ?_; (first | refine A_mt rfl rfl rfl rfl ?_ | refine A_move rfl rfl _ (.inl rfl) (y := .ptr _ _) rfl ?_ | refine A_move rfl rfl _ (.inl rfl) (y := .tup _) rfl ?_)) | (refine kL 105 rfl ?_; (first | refine A_cmp (d := 8) rfl rfl (c := false) .lss 3 3 _ _ rfl rfl rfl (by exact congrArg some (decide_eq_false (by (try (dsimp only; fail_if_success done)); omega))) ?_ | refine A_cmp (d := 17) rfl rfl (c := false) .geq 3 3 _ _ rfl rfl rfl (by exact congrArg some (decide_eq_false (by (try (dsimp only; fail_if_success done)); omega))) ?_ | refine A_cmp (d := 25) rfl rfl (c := false) .eql 3 3 _ _ rfl rfl rfl (by exact congrArg some (decide_eq_false (by (try (dsimp only; fail_if_success done)); omega))) ?_ | refine A_cmp (d := 50) rfl rfl (c := false) .neq 3 3 _ _ rfl rfl rfl (by exact congrArg some (decide_eq_false (by (try (dsimp only; fail_if_success done)); omega))) ?_)) | (refine kL 31 rfl ?_; refine A_nilc rfl rfl _ rfl rfl rfl ?_) | (refine kL 2244 rfl ?_; (first | refine A_field rfl rfl 70 _ 0 rfl ud70 rfl inf29 (by decide) 0 rfl rfl ?_ | refine A_field rfl rfl 70 _ 2 rfl ud70 rfl inf3 (by decide) 15 rfl rfl ?_)) | refine A_field rfl rfl 29 _ 2 rfl ud29 rfl inf26 (by decide) 2 rfl rfl ?_ | refine A_load rfl rfl 26 _ rfl ud26 rfl rfl rfl rfl ?_ | refine A_len rfl rfl 26 _ rfl ud26 rfl ?_ | (refine kL 19 rfl ?_; refine A_pkf rfl rfl _ _ _ rfl rfl rfl ?_) | (refine kL 98 rfl ?_; (first | refine A_load rfl rfl 3 _ rfl ud3 rfl rfl rfl rfl ?_ | refine A_load_lp rfl rfl 3 _ rfl ud3 rfl rfl rfl ?_)) | (refine kL 838 rfl ?_; refine A_idx rfl rfl 26 _ _ rfl ud26 inf43 (by decide) (by exact .inr rfl) rfl (by omega) _ (by with_reducible exact Int.toNat_natCast _) (by exact map_get (by assumption)) rfl (cs' := [_, _, _, _]) rfl ?_) | (refine kL 1380 rfl ?_; (first | refine A_field rfl rfl 43 _ 0 rfl ud43 rfl inf4 (by decide) 0 rfl rfl ?_ | refine A_field rfl rfl 43 _ 2 rfl ud43 rfl inf3 (by decide) 2 rfl rfl ?_)) | refine A_load_lp rfl rfl 4 _ rfl ud4 rfl rfl rfl ?_ | refine A_not rfl rfl _ _ rfl rfl ?_ | (refine kL 1614 rfl ?_; (first | refine A_build rfl rfl 50 _ rfl ud50 inf50 [(0, 1), (1, 1), (2, 1), (3, 1)] (by kernel_rfl) (zs := [.t (.v (.int .i64 0)), .t (.v (.int .i64 0)), .t (.v (.int .i64 0)), .t (.v (.int .i64 0))]) rfl (.cons rfl (.cons rfl .nil)) (cs := [_, _, _, _]) rfl ?_ | refine A_build rfl rfl 50 _ rfl ud50 inf50 [(0, 1), (1, 1), (2, 1), (3, 1)] (by kernel_rfl) (zs := [.t (.v (.int .i64 0)), .t (.v (.int .i64 0)), .t (.v (.int .i64 0)), .t (.v (.int .i64 0))]) rfl .nil (cs := [_, _, _, _]) rfl ?_)) | refine A_store rfl rfl 50 _ _ rfl inf50 rfl rfl rfl rfl (Nat.le_of_ble_eq_true rfl) qN qN ?_ | (refine kL 3146 rfl ?_; refine A_cl rfl rfl Try.func98 rfl (cX) ?_) | (refine kL 18 rfl ?_; (first | refine A_extract rfl rfl _ 0 rfl rfl rfl ?_ | refine A_extract rfl rfl _ 1 rfl rfl rfl ?_)) | refine A_store rfl rfl 26 _ _ rfl inf26 rfl rfl rfl rfl (Nat.le_of_ble_eq_true rfl) qN qN ?_ | (refine kL 3982 rfl ?_; refine A_build rfl rfl 124 _ rfl ud124 inf124 [(0, 1), (1, 4)] (by kernel_rfl) (zs := [.t (.v (.int .i64 0)), .t (.v (.int .i64 0)), .t (.v (.int .i64 0)), .t (.v (.int .i64 0)), .t (.v (.int .i64 0))]) rfl (.cons rfl (.cons rfl .nil)) (cs := [_, _, _, _, _]) rfl ?_) | (refine kL 3114 rfl ?_; refine A_callio rfl rfl Try.func97 (by kernel_rfl) (by kernel_rfl) rfl [0, 1, 2] (by decide) (cT) (by repeat (first | exact .nil | refine .cons rfl ?_ ?_ | exact .row | refine .box ?_ | (first | exact .sel rfl | refine .cons ?_ ?_ | exact .t _))) (by ((repeat (first | exact .nil | exact .ptr rfl | refine .cons ?_ ?_ | exact .lst _)); (first | done | fail))) qL (by (try simp only [setSel, upO, upA, upF, gIO, List.map_cons, List.map_nil, List.drop_succ_cons, List.drop_zero, List.drop_nil, List.length_cons, List.length_nil, List.set_cons_zero, List.set_cons_succ, List.cons_append, List.nil_append, List.append_nil, List.getElem?_cons_zero, List.getElem?_cons_succ, List.getElem?_nil, Nat.zero_add, Nat.reduceAdd, Nat.reduceSub]); rfl) (by (try simp only [setSel, upO, upA, upF, gIO, List.map_cons, List.map_nil, List.drop_succ_cons, List.drop_zero, List.drop_nil, List.length_cons, List.length_nil, List.set_cons_zero, List.set_cons_succ, List.cons_append, List.nil_append, List.append_nil, List.getElem?_cons_zero, List.getElem?_cons_succ, List.getElem?_nil, Nat.zero_add, Nat.reduceAdd, Nat.reduceSub]); rfl) ?_) | refine AL.nil ?_)) | with_reducible refine AW.at_region _ ?_ | (with_reducible (first | refine wk0 ?_ | refine wk2 ?_ | refine wk9 ?_ | refine wkb ?_ | refine wkd ?_)) | refine kcf rfl ?_)
          all_goals first | (exfalso; omega) | (exact Fin.q Try.results66 (.cons (.agg rfl rfl ud50 rfl inf50 (us := [_, _, _, _]) rfl rfl) .nil) [])
        · rw [decide_eq_false hv, if_neg (by simp)]
          dsimp only [stH, stB, aR]
          first | refine Cd.enter' Try.func66 rfl Try.ntmps66 rfl ?_ | refine Cio.enter' Try.func66 rfl Try.ntmps66 rfl qM ?_ | refine C.enter' Try.func66 rfl Try.ntmps66 rfl qM ?_
          repeat' (first | ((with_reducible refine kAL ?_); (first | refine A_alloc rfl rfl 50 rfl inf50 (cs := [.t (.v (.int .i64 0)), .t (.v (.int .i64 0)), .t (.v (.int .i64 0)), .t (.v (.int .i64 0))]) rfl (.push qL qN) ?_ | (refine kL 0 rfl ?_; (first | refine A_mt rfl rfl rfl rfl ?_ | refine A_move rfl rfl _ (.inl rfl) (y := .ptr _ _) rfl ?_)) | (refine kL 105 rfl ?_; (first | refine A_cmp (d := 8) rfl rfl (c := false) .lss 3 3 _ _ rfl rfl rfl (by exact congrArg some (decide_eq_false (by (try (dsimp only; fail_if_success done)); omega))) ?_ | refine A_cmp (d := 17) rfl rfl (c := false) .geq 3 3 _ _ rfl rfl rfl (by exact congrArg some (decide_eq_false (by (try (dsimp only; fail_if_success done)); omega))) ?_ | refine A_cmp (d := 25) rfl rfl (c := false) .eql 3 3 _ _ rfl rfl rfl (by exact congrArg some (decide_eq_false (by (try (dsimp only; fail_if_success done)); omega))) ?_ | refine A_cmp (d := 50) rfl rfl (c := true) .neq 3 3 _ _ rfl rfl rfl (by exact congrArg some (decide_eq_true (by (try (dsimp only; fail_if_success done)); omega))) ?_)) | (refine kL 31 rfl ?_; refine A_nilc rfl rfl _ rfl rfl rfl ?_) | (refine kL 2244 rfl ?_; (first | refine A_field rfl rfl 70 _ 0 rfl ud70 rfl inf29 (by decide) 0 rfl rfl ?_ | refine A_field rfl rfl 70 _ 2 rfl ud70 rfl inf3 (by decide) 15 rfl rfl ?_)) | refine A_field rfl rfl 29 _ 2 rfl ud29 rfl inf26 (by decide) 2 rfl rfl ?_ | refine A_load rfl rfl 26 _ rfl ud26 rfl rfl rfl rfl ?_ | refine A_len rfl rfl 26 _ rfl ud26 rfl ?_ | (refine kL 19 rfl ?_; refine A_pkf rfl rfl _ _ _ rfl rfl rfl ?_) | (refine kL 98 rfl ?_; (first | refine A_load rfl rfl 3 _ rfl ud3 rfl rfl rfl rfl ?_ | refine A_load_lp rfl rfl 3 _ rfl ud3 rfl rfl rfl ?_)) | (refine kL 838 rfl ?_; refine A_idx rfl rfl 26 _ _ rfl ud26 inf43 (by decide) (by exact .inr rfl) rfl (by omega) _ (by with_reducible exact Int.toNat_natCast _) (by exact map_get (by assumption)) rfl (cs' := [_, _, _, _]) rfl ?_) | (refine kL 1380 rfl ?_; (first | refine A_field rfl rfl 43 _ 0 rfl ud43 rfl inf4 (by decide) 0 rfl rfl ?_ | refine A_field rfl rfl 43 _ 2 rfl ud43 rfl inf3 (by decide) 2 rfl rfl ?_)) | refine A_load_lp rfl rfl 4 _ rfl ud4 rfl rfl rfl ?_ | refine A_not rfl rfl _ _ rfl rfl ?_ | (refine kL 1614 rfl ?_; refine A_build rfl rfl 50 _ rfl ud50 inf50 [(0, 1), (1, 1), (2, 1), (3, 1)] (by kernel_rfl) (zs := [.t (.v (.int .i64 0)), .t (.v (.int .i64 0)), .t (.v (.int .i64 0)), .t (.v (.int .i64 0))]) rfl (.cons rfl .nil) (cs := [_, _, _, _]) rfl ?_) | refine A_store rfl rfl 50 _ _ rfl inf50 rfl rfl rfl rfl (Nat.le_of_ble_eq_true rfl) qN qN ?_ | refine AL.nil ?_)) | with_reducible refine AW.at_region _ ?_ | (with_reducible (first | refine wk0 ?_ | refine wk2 ?_ | refine wk3 ?_ | refine wk9 ?_ | refine wkb ?_)) | refine kct rfl ?_)
          all_goals first | (exfalso; omega) | (exact Fin.q Try.results66 (.cons (.agg rfl rfl ud50 rfl inf50 (us := [_, _, _, _]) rfl rfl) .nil) [])
  · rw [cutOk_out ht, Bool.false_and, Bool.false_and, if_neg (by simp)]
    dsimp only [stH, stB, aR]
    by_cases h0 : t < 0
    all_goals
      first | refine Cd.enter' Try.func66 rfl Try.ntmps66 rfl ?_ | refine Cio.enter' Try.func66 rfl Try.ntmps66 rfl qM ?_ | refine C.enter' Try.func66 rfl Try.ntmps66 rfl qM ?_
      repeat' (first | ((with_reducible refine kAL ?_); (first | refine A_alloc rfl rfl 50 rfl inf50 (cs := [.t (.v (.int .i64 0)), .t (.v (.int .i64 0)), .t (.v (.int .i64 0)), .t (.v (.int .i64 0))]) rfl (.push qL qN) ?_ | (refine kL 0 rfl ?_; (first | refine A_mt rfl rfl rfl rfl ?_ | refine A_move rfl rfl _ (.inl rfl) (y := .ptr _ _) rfl ?_)) | (refine kL 105 rfl ?_; (first | refine A_cmp (d := 8) rfl rfl (c := true) .lss 3 3 _ _ rfl rfl rfl (by exact congrArg some (decide_eq_true (by (try (dsimp only; fail_if_success done)); omega))) ?_ | refine A_cmp (d := 8) rfl rfl (c := false) .lss 3 3 _ _ rfl rfl rfl (by exact congrArg some (decide_eq_false (by (try (dsimp only; fail_if_success done)); omega))) ?_ | refine A_cmp (d := 17) rfl rfl (c := true) .geq 3 3 _ _ rfl rfl rfl (by exact congrArg some (decide_eq_true (by (try (dsimp only; fail_if_success done)); omega))) ?_)) | (refine kL 31 rfl ?_; refine A_nilc rfl rfl _ rfl rfl rfl ?_) | refine A_field rfl rfl 70 _ 0 rfl ud70 rfl inf29 (by decide) 0 rfl rfl ?_ | refine A_field rfl rfl 29 _ 2 rfl ud29 rfl inf26 (by decide) 2 rfl rfl ?_ | refine A_load rfl rfl 26 _ rfl ud26 rfl rfl rfl rfl ?_ | refine A_len rfl rfl 26 _ rfl ud26 rfl ?_ | (refine kL 19 rfl ?_; (first | refine A_pkt rfl rfl _ _ _ rfl rfl rfl ?_ | refine A_pkf rfl rfl _ _ _ rfl rfl rfl ?_)) | (refine kL 1614 rfl ?_; refine A_build rfl rfl 50 _ rfl ud50 inf50 [(0, 1), (1, 1), (2, 1), (3, 1)] (by kernel_rfl) (zs := [.t (.v (.int .i64 0)), .t (.v (.int .i64 0)), .t (.v (.int .i64 0)), .t (.v (.int .i64 0))]) rfl (.cons rfl .nil) (cs := [_, _, _, _]) rfl ?_) | refine A_store rfl rfl 50 _ _ rfl inf50 rfl rfl rfl rfl (Nat.le_of_ble_eq_true rfl) qN qN ?_ | refine AL.nil ?_ | refine AL.skip rfl rfl ?_)) | with_reducible refine AW.at_region _ ?_ | (with_reducible (first | refine wk0 ?_ | refine wk2 ?_ | refine wk3 ?_ | refine wk9 ?_ | refine wkb ?_)) | refine kct rfl ?_)
      all_goals first | (exfalso; omega) | (exact Fin.q Try.results66 (.cons (.agg rfl rfl ud50 rfl inf50 (us := [_, _, _, _]) rfl rfl) .nil) [])
set_option maxHeartbeats 16000000 in
theorem call_c (c : DConf) (m k : Nat) (h : DHall) (t n : Int) (q : DReq) (hq : okQ h q) (hm : h.chans.length = m) (hk : h.done.length = k) (hh : okHl h) :
    Cio Try.prog 31 [.ptr 0 0, aRq q] (stH c m k h t n) (aR (callH c h t n q).2) (stH c m k (callH c h t n q).1 t n) := by
  have hm1 := hh.c
  have x1 := open_c c m k h t n q.arg hm (by omega) hq.g
  have x2 := free_c c m k h t n q.arg hq.a hm hk (by omega) hh.w
  have x3 := choose_c c m k h t n q hq.c hq.l hq.t hm hk hh
  have x4 := hshut_c c m k h t n q.arg hq.a hm hk hh
  have x5 := look_c c m k h t n q hq.a hm hk (by omega)
  have x7 := cancel_c c m k h t n q.arg q.value hm hk hh
  unfold callH
  obtain ⟨qk, qa, qv, qd, cs⟩ := q
  dsimp only at *
  by_cases k1 : qk = 1
  · rw [if_pos k1]
    generalize openH c h qa = O at *
    obtain ⟨⟨o1, o2, o3, o4⟩, ⟨r1, r2, r3, r4⟩⟩ := O
    dsimp only [stH, stB, aR, aRq] at *
    clear x2 x3 x4 x5 x7
    refine Cio.enter' Try.func31 rfl Try.ntmps31 rfl qM ?_
    repeat' (first | ((with_reducible refine kAL ?_); (first | refine A_box rfl rfl 32 _ rfl rfl (.push qL qN) ?_ | refine A_alloc rfl rfl 50 rfl inf50 (cs := [.t (.v (.int .i64 0)), .t (.v (.int .i64 0)), .t (.v (.int .i64 0)), .t (.v (.int .i64 0))]) rfl (.push qL qN) ?_ | (refine kL 1028 rfl ?_; (first | refine A_field rfl rfl 32 _ 0 rfl ud32 rfl inf3 (by decide) 0 rfl rfl ?_ | refine A_field rfl rfl 32 _ 1 rfl ud32 rfl inf3 (by decide) 1 rfl rfl ?_)) | refine A_load rfl rfl 3 _ rfl ud3 rfl rfl rfl rfl ?_ | refine A_cmp (d := 8) rfl rfl (c := true) .eql 3 3 _ _ rfl rfl rfl (by exact congrArg some (decide_eq_true (by (try (dsimp only; fail_if_success done)); omega))) ?_ | refine A_as rfl rfl rfl rfl ?_ | refine A_move rfl rfl _ (.inl rfl) (y := .ptr _ _) rfl ?_ | (refine kL 1962 rfl ?_; refine A_callio rfl rfl Try.func61 (by kernel_rfl) (by kernel_rfl) rfl [0, 1, 2] (by decide) (x1) (by repeat (first | exact .nil | refine .cons rfl ?_ ?_ | exact .row | refine .box ?_ | (first | exact .sel rfl | refine .cons ?_ ?_ | exact .t _))) (by ((repeat (first | exact .nil | exact .ptr rfl | refine .cons ?_ ?_ | exact .t _)); (first | done | fail))) qL (by (try simp only [setSel, upO, upA, upF, gIO, List.map_cons, List.map_nil, List.drop_succ_cons, List.drop_zero, List.drop_nil, List.length_cons, List.length_nil, List.set_cons_zero, List.set_cons_succ, List.cons_append, List.nil_append, List.append_nil, List.getElem?_cons_zero, List.getElem?_cons_succ, List.getElem?_nil, Nat.zero_add, Nat.reduceAdd, Nat.reduceSub]); rfl) (by (try simp only [setSel, upO, upA, upF, gIO, List.map_cons, List.map_nil, List.drop_succ_cons, List.drop_zero, List.drop_nil, List.length_cons, List.length_nil, List.set_cons_zero, List.set_cons_succ, List.cons_append, List.nil_append, List.append_nil, List.getElem?_cons_zero, List.getElem?_cons_succ, List.getElem?_nil, Nat.zero_add, Nat.reduceAdd, Nat.reduceSub]); rfl) ?_) | refine A_store rfl rfl 50 _ _ rfl inf50 rfl rfl rfl rfl (Nat.le_of_ble_eq_true rfl) qN qN ?_ | refine AL.nil ?_)) | with_reducible refine AW.at_region _ ?_ | (with_reducible (first | refine wk0 ?_ | refine wk1 ?_ | refine wk2 ?_ | refine wk3 ?_ | refine wk6 ?_ | refine wk9 ?_ | refine wkb ?_)) | refine kct rfl ?_)
    all_goals first | (exfalso; omega) | (exact Fin.q Try.results31 (.cons (.agg rfl rfl ud50 rfl inf50 (us := [_, _, _, _]) rfl rfl) .nil) [])
  · rw [if_neg k1]
    by_cases k2 : qk = 2
    · rw [if_pos k2]
      generalize freeH h qa = O at *
      obtain ⟨⟨o1, o2, o3, o4⟩, ⟨r1, r2, r3, r4⟩⟩ := O
      dsimp only [stH, stB, aR, aRq] at *
      clear x1 x3 x4 x5 x7
      refine Cio.enter' Try.func31 rfl Try.ntmps31 rfl qM ?_
      repeat' (first | ((with_reducible refine kAL ?_); (first | refine A_box rfl rfl 32 _ rfl rfl (.push qL qN) ?_ | refine A_alloc rfl rfl 50 rfl inf50 (cs := [.t (.v (.int .i64 0)), .t (.v (.int .i64 0)), .t (.v (.int .i64 0)), .t (.v (.int .i64 0))]) rfl (.push qL qN) ?_ | (refine kL 1028 rfl ?_; (first | refine A_field rfl rfl 32 _ 0 rfl ud32 rfl inf3 (by decide) 0 rfl rfl ?_ | refine A_field rfl rfl 32 _ 1 rfl ud32 rfl inf3 (by decide) 1 rfl rfl ?_)) | refine A_load rfl rfl 3 _ rfl ud3 rfl rfl rfl rfl ?_ | (refine kL 105 rfl ?_; (first | refine A_cmp (d := 8) rfl rfl (c := false) .eql 3 3 _ _ rfl rfl rfl (by exact congrArg some (decide_eq_false (by (try (dsimp only; fail_if_success done)); omega))) ?_ | refine A_cmp (d := 14) rfl rfl (c := true) .eql 3 3 _ _ rfl rfl rfl (by exact congrArg some (decide_eq_true (by (try (dsimp only; fail_if_success done)); omega))) ?_)) | refine A_as rfl rfl rfl rfl ?_ | refine A_move rfl rfl _ (.inl rfl) (y := .ptr _ _) rfl ?_ | refine A_store rfl rfl 50 _ _ rfl inf50 rfl rfl rfl rfl (Nat.le_of_ble_eq_true rfl) qN qN ?_ | (refine kL 1994 rfl ?_; refine A_callio rfl rfl Try.func62 (by kernel_rfl) (by kernel_rfl) rfl [0, 1, 2] (by decide) (x2) (by repeat (first | exact .nil | refine .cons rfl ?_ ?_ | exact .row | refine .box ?_ | (first | exact .sel rfl | refine .cons ?_ ?_ | exact .t _))) (by ((repeat (first | exact .nil | exact .ptr rfl | refine .cons ?_ ?_ | exact .t _)); (first | done | fail))) qL (by (try simp only [setSel, upO, upA, upF, gIO, List.map_cons, List.map_nil, List.drop_succ_cons, List.drop_zero, List.drop_nil, List.length_cons, List.length_nil, List.set_cons_zero, List.set_cons_succ, List.cons_append, List.nil_append, List.append_nil, List.getElem?_cons_zero, List.getElem?_cons_succ, List.getElem?_nil, Nat.zero_add, Nat.reduceAdd, Nat.reduceSub]); rfl) (by (try simp only [setSel, upO, upA, upF, gIO, List.map_cons, List.map_nil, List.drop_succ_cons, List.drop_zero, List.drop_nil, List.length_cons, List.length_nil, List.set_cons_zero, List.set_cons_succ, List.cons_append, List.nil_append, List.append_nil, List.getElem?_cons_zero, List.getElem?_cons_succ, List.getElem?_nil, Nat.zero_add, Nat.reduceAdd, Nat.reduceSub]); rfl) ?_) | refine AL.nil ?_)) | with_reducible refine AW.at_region _ ?_ | (with_reducible (first | refine wk0 ?_ | refine wk1 ?_ | refine wk2 ?_ | refine wk3 ?_ | refine wk6 ?_ | refine wk9 ?_ | refine wkb ?_)) | refine kct rfl ?_ | refine kcf rfl ?_)
      all_goals first | (exfalso; omega) | (exact Fin.q Try.results31 (.cons (.agg rfl rfl ud50 rfl inf50 (us := [_, _, _, _]) rfl rfl) .nil) [])
    · rw [if_neg k2]
      by_cases k3 : qk = 3
      · rw [if_pos k3]
        generalize chooseH h t n ⟨qk, qa, qv, qd, cs⟩ = O at *
        obtain ⟨⟨o1, o2, o3, o4⟩, ⟨r1, r2, r3, r4⟩⟩ := O
        dsimp only [stH, stB, aR, aRq] at *
        clear x2 x1 x4 x5 x7
        refine Cio.enter' Try.func31 rfl Try.ntmps31 rfl qM ?_
        repeat' (first | ((with_reducible refine kAL ?_); (first | refine A_box rfl rfl 32 _ rfl rfl (.push qL qN) ?_ | refine A_alloc rfl rfl 50 rfl inf50 (cs := [.t (.v (.int .i64 0)), .t (.v (.int .i64 0)), .t (.v (.int .i64 0)), .t (.v (.int .i64 0))]) rfl (.push qL qN) ?_ | refine A_field rfl rfl 32 _ 0 rfl ud32 rfl inf3 (by decide) 0 rfl rfl ?_ | refine A_load rfl rfl 3 _ rfl ud3 rfl rfl rfl rfl ?_ | (refine kL 105 rfl ?_; (first | refine A_cmp (d := 8) rfl rfl (c := false) .eql 3 3 _ _ rfl rfl rfl (by exact congrArg some (decide_eq_false (by (try (dsimp only; fail_if_success done)); omega))) ?_ | refine A_cmp (d := 14) rfl rfl (c := false) .eql 3 3 _ _ rfl rfl rfl (by exact congrArg some (decide_eq_false (by (try (dsimp only; fail_if_success done)); omega))) ?_ | refine A_cmp (d := 20) rfl rfl (c := true) .eql 3 3 _ _ rfl rfl rfl (by exact congrArg some (decide_eq_true (by (try (dsimp only; fail_if_success done)); omega))) ?_)) | refine A_as rfl rfl rfl rfl ?_ | refine A_move rfl rfl _ (.inl rfl) (y := .ptr _ _) rfl ?_ | refine A_store rfl rfl 50 _ _ rfl inf50 rfl rfl rfl rfl (Nat.le_of_ble_eq_true rfl) qN qN ?_ | refine A_load_agg rfl rfl 32 _ rfl ud32 rfl inf32 rfl rfl (us' := [_, _, _, _, _]) rfl rfl ?_ | (refine kL 2026 rfl ?_; refine A_callio rfl rfl Try.func63 (by kernel_rfl) (by kernel_rfl) rfl [0, 1, 2] (by decide) (x3) (by repeat (first | exact .nil | refine .cons rfl ?_ ?_ | exact .row | refine .box ?_ | (first | exact .sel rfl | refine .cons ?_ ?_ | exact .t _))) (by ((repeat (first | exact .nil | exact .ptr rfl | refine .cons ?_ ?_ | exact .t _ | refine .aggL ?_ | exact .ln _)); (first | done | fail))) qL (by (try simp only [setSel, upO, upA, upF, gIO, List.map_cons, List.map_nil, List.drop_succ_cons, List.drop_zero, List.drop_nil, List.length_cons, List.length_nil, List.set_cons_zero, List.set_cons_succ, List.cons_append, List.nil_append, List.append_nil, List.getElem?_cons_zero, List.getElem?_cons_succ, List.getElem?_nil, Nat.zero_add, Nat.reduceAdd, Nat.reduceSub]); rfl) (by (try simp only [setSel, upO, upA, upF, gIO, List.map_cons, List.map_nil, List.drop_succ_cons, List.drop_zero, List.drop_nil, List.length_cons, List.length_nil, List.set_cons_zero, List.set_cons_succ, List.cons_append, List.nil_append, List.append_nil, List.getElem?_cons_zero, List.getElem?_cons_succ, List.getElem?_nil, Nat.zero_add, Nat.reduceAdd, Nat.reduceSub]); rfl) ?_) | refine AL.nil ?_)) | with_reducible refine AW.at_region _ ?_ | (with_reducible (first | refine wk0 ?_ | refine wk1 ?_ | refine wk2 ?_ | refine wk3 ?_ | refine wk6 ?_ | refine wk9 ?_ | refine wkb ?_)) | refine kct rfl ?_ | refine kcf rfl ?_)
        all_goals first | (exfalso; omega) | (exact Fin.q Try.results31 (.cons (.agg rfl rfl ud50 rfl inf50 (us := [_, _, _, _]) rfl rfl) .nil) [])
      · rw [if_neg k3]
        by_cases k4 : qk = 4
        · rw [if_pos k4]
          generalize closeH h qa = O at *
          obtain ⟨⟨o1, o2, o3, o4⟩, ⟨r1, r2, r3, r4⟩⟩ := O
          dsimp only [stH, stB, aR, aRq] at *
          clear x2 x3 x1 x5 x7
          refine Cio.enter' Try.func31 rfl Try.ntmps31 rfl qM ?_
          repeat' (first | ((with_reducible refine kAL ?_); (first | refine A_box rfl rfl 32 _ rfl rfl (.push qL qN) ?_ | refine A_alloc rfl rfl 50 rfl inf50 (cs := [.t (.v (.int .i64 0)), .t (.v (.int .i64 0)), .t (.v (.int .i64 0)), .t (.v (.int .i64 0))]) rfl (.push qL qN) ?_ | (refine kL 1028 rfl ?_; (first | refine A_field rfl rfl 32 _ 0 rfl ud32 rfl inf3 (by decide) 0 rfl rfl ?_ | refine A_field rfl rfl 32 _ 1 rfl ud32 rfl inf3 (by decide) 1 rfl rfl ?_)) | refine A_load rfl rfl 3 _ rfl ud3 rfl rfl rfl rfl ?_ | (refine kL 105 rfl ?_; (first | refine A_cmp (d := 8) rfl rfl (c := false) .eql 3 3 _ _ rfl rfl rfl (by exact congrArg some (decide_eq_false (by (try (dsimp only; fail_if_success done)); omega))) ?_ | refine A_cmp (d := 14) rfl rfl (c := false) .eql 3 3 _ _ rfl rfl rfl (by exact congrArg some (decide_eq_false (by (try (dsimp only; fail_if_success done)); omega))) ?_ | refine A_cmp (d := 20) rfl rfl (c := false) .eql 3 3 _ _ rfl rfl rfl (by exact congrArg some (decide_eq_false (by (try (dsimp only; fail_if_success done)); omega))) ?_ | refine A_cmp (d := 25) rfl rfl (c := true) .eql 3 3 _ _ rfl rfl rfl (by exact congrArg some (decide_eq_true (by (try (dsimp only; fail_if_success done)); omega))) ?_)) | refine A_as rfl rfl rfl rfl ?_ | refine A_move rfl rfl _ (.inl rfl) (y := .ptr _ _) rfl ?_ | refine A_store rfl rfl 50 _ _ rfl inf50 rfl rfl rfl rfl (Nat.le_of_ble_eq_true rfl) qN qN ?_ | (refine kL 2058 rfl ?_; refine A_callio rfl rfl Try.func64 (by kernel_rfl) (by kernel_rfl) rfl [0, 1, 2] (by decide) (x4) (by repeat (first | exact .nil | refine .cons rfl ?_ ?_ | exact .row | refine .box ?_ | (first | exact .sel rfl | refine .cons ?_ ?_ | exact .t _))) (by ((repeat (first | exact .nil | exact .ptr rfl | refine .cons ?_ ?_ | exact .t _)); (first | done | fail))) qL (by (try simp only [setSel, upO, upA, upF, gIO, List.map_cons, List.map_nil, List.drop_succ_cons, List.drop_zero, List.drop_nil, List.length_cons, List.length_nil, List.set_cons_zero, List.set_cons_succ, List.cons_append, List.nil_append, List.append_nil, List.getElem?_cons_zero, List.getElem?_cons_succ, List.getElem?_nil, Nat.zero_add, Nat.reduceAdd, Nat.reduceSub]); rfl) (by (try simp only [setSel, upO, upA, upF, gIO, List.map_cons, List.map_nil, List.drop_succ_cons, List.drop_zero, List.drop_nil, List.length_cons, List.length_nil, List.set_cons_zero, List.set_cons_succ, List.cons_append, List.nil_append, List.append_nil, List.getElem?_cons_zero, List.getElem?_cons_succ, List.getElem?_nil, Nat.zero_add, Nat.reduceAdd, Nat.reduceSub]); rfl) ?_) | refine AL.nil ?_)) | with_reducible refine AW.at_region _ ?_ | (with_reducible (first | refine wk0 ?_ | refine wk1 ?_ | refine wk2 ?_ | refine wk3 ?_ | refine wk6 ?_ | refine wk9 ?_ | refine wkb ?_)) | refine kct rfl ?_ | refine kcf rfl ?_)
          all_goals first | (exfalso; omega) | (exact Fin.q Try.results31 (.cons (.agg rfl rfl ud50 rfl inf50 (us := [_, _, _, _]) rfl rfl) .nil) [])
        · rw [if_neg k4]
          by_cases k5 : qk = 5 ∨ qk = 6
          · rw [if_pos k5]
            generalize lookH h ⟨qk, qa, qv, qd, cs⟩ = O at *
            obtain ⟨r1, r2, r3, r4⟩ := O
            dsimp only [stH, stB, aR, aRq] at *
            clear x2 x3 x4 x1 x7
            by_cases k6 : qk = 5
            all_goals
              refine Cio.enter' Try.func31 rfl Try.ntmps31 rfl qM ?_
              repeat' (first | ((with_reducible refine kAL ?_); (first | refine A_box rfl rfl 32 _ rfl rfl (.push qL qN) ?_ | refine A_alloc rfl rfl 50 rfl inf50 (cs := [.t (.v (.int .i64 0)), .t (.v (.int .i64 0)), .t (.v (.int .i64 0)), .t (.v (.int .i64 0))]) rfl (.push qL qN) ?_ | refine A_field rfl rfl 32 _ 0 rfl ud32 rfl inf3 (by decide) 0 rfl rfl ?_ | refine A_load rfl rfl 3 _ rfl ud3 rfl rfl rfl rfl ?_ | (refine kL 105 rfl ?_; (first | refine A_cmp (d := 8) rfl rfl (c := false) .eql 3 3 _ _ rfl rfl rfl (by exact congrArg some (decide_eq_false (by (try (dsimp only; fail_if_success done)); omega))) ?_ | refine A_cmp (d := 14) rfl rfl (c := false) .eql 3 3 _ _ rfl rfl rfl (by exact congrArg some (decide_eq_false (by (try (dsimp only; fail_if_success done)); omega))) ?_ | refine A_cmp (d := 20) rfl rfl (c := false) .eql 3 3 _ _ rfl rfl rfl (by exact congrArg some (decide_eq_false (by (try (dsimp only; fail_if_success done)); omega))) ?_ | refine A_cmp (d := 25) rfl rfl (c := false) .eql 3 3 _ _ rfl rfl rfl (by exact congrArg some (decide_eq_false (by (try (dsimp only; fail_if_success done)); omega))) ?_ | refine A_cmp (d := 31) rfl rfl (c := true) .eql 3 3 _ _ rfl rfl rfl (by exact congrArg some (decide_eq_true (by (try (dsimp only; fail_if_success done)); omega))) ?_ | refine A_cmp (d := 31) rfl rfl (c := false) .eql 3 3 _ _ rfl rfl rfl (by exact congrArg some (decide_eq_false (by (try (dsimp only; fail_if_success done)); omega))) ?_ | refine A_cmp (d := 32) rfl rfl (c := true) .eql 3 3 _ _ rfl rfl rfl (by exact congrArg some (decide_eq_true (by (try (dsimp only; fail_if_success done)); omega))) ?_)) | refine A_as rfl rfl rfl rfl ?_ | refine A_move rfl rfl _ (.inl rfl) (y := .ptr _ _) rfl ?_ | refine A_store rfl rfl 50 _ _ rfl inf50 rfl rfl rfl rfl (Nat.le_of_ble_eq_true rfl) qN qN ?_ | refine A_load_agg rfl rfl 32 _ rfl ud32 rfl inf32 rfl rfl (us' := [_, _, _, _, _]) rfl rfl ?_ | (refine kL 2090 rfl ?_; refine A_callio rfl rfl Try.func65 (by kernel_rfl) (by kernel_rfl) rfl [0, 1, 2] (by decide) (x5) (by repeat (first | exact .nil | refine .cons rfl ?_ ?_ | exact .row | refine .box ?_ | (first | exact .sel rfl | refine .cons ?_ ?_ | exact .t _))) (by ((repeat (first | exact .nil | exact .ptr rfl | refine .cons ?_ ?_ | exact .t _ | refine .aggL ?_ | exact .ln _)); (first | done | fail))) qL (by (try simp only [setSel, upO, upA, upF, gIO, List.map_cons, List.map_nil, List.drop_succ_cons, List.drop_zero, List.drop_nil, List.length_cons, List.length_nil, List.set_cons_zero, List.set_cons_succ, List.cons_append, List.nil_append, List.append_nil, List.getElem?_cons_zero, List.getElem?_cons_succ, List.getElem?_nil, Nat.zero_add, Nat.reduceAdd, Nat.reduceSub]); rfl) (by (try simp only [setSel, upO, upA, upF, gIO, List.map_cons, List.map_nil, List.drop_succ_cons, List.drop_zero, List.drop_nil, List.length_cons, List.length_nil, List.set_cons_zero, List.set_cons_succ, List.cons_append, List.nil_append, List.append_nil, List.getElem?_cons_zero, List.getElem?_cons_succ, List.getElem?_nil, Nat.zero_add, Nat.reduceAdd, Nat.reduceSub]); rfl) ?_) | refine AL.nil ?_)) | with_reducible refine AW.at_region _ ?_ | (with_reducible (first | refine wk0 ?_ | refine wk1 ?_ | refine wk2 ?_ | refine wk3 ?_ | refine wk6 ?_ | refine wk9 ?_ | refine wkb ?_ | refine wkd ?_)) | refine kct rfl ?_ | refine kcf rfl ?_)
              all_goals first | (exfalso; omega) | (exact Fin.q Try.results31 (.cons (.agg rfl rfl ud50 rfl inf50 (us := [_, _, _, _]) rfl rfl) .nil) [])
          · rw [if_neg k5]
            by_cases k7 : qk = 7
            · rw [if_pos k7]
              generalize cancelH h t qa qv = O at *
              obtain ⟨⟨o1, o2, o3, o4⟩, ⟨r1, r2, r3, r4⟩⟩ := O
              dsimp only [stH, stB, aR, aRq] at *
              clear x2 x3 x4 x5 x1
              refine Cio.enter' Try.func31 rfl Try.ntmps31 rfl qM ?_
              repeat' (first | ((with_reducible refine kAL ?_); (first | refine A_box rfl rfl 32 _ rfl rfl (.push qL qN) ?_ | refine A_alloc rfl rfl 50 rfl inf50 (cs := [.t (.v (.int .i64 0)), .t (.v (.int .i64 0)), .t (.v (.int .i64 0)), .t (.v (.int .i64 0))]) rfl (.push qL qN) ?_ | (refine kL 1028 rfl ?_; (first | refine A_field rfl rfl 32 _ 0 rfl ud32 rfl inf3 (by decide) 0 rfl rfl ?_ | refine A_field rfl rfl 32 _ 1 rfl ud32 rfl inf3 (by decide) 1 rfl rfl ?_ | refine A_field rfl rfl 32 _ 2 rfl ud32 rfl inf3 (by decide) 2 rfl rfl ?_)) | refine A_load rfl rfl 3 _ rfl ud3 rfl rfl rfl rfl ?_ | (refine kL 105 rfl ?_; (first | refine A_cmp (d := 8) rfl rfl (c := false) .eql 3 3 _ _ rfl rfl rfl (by exact congrArg some (decide_eq_false (by (try (dsimp only; fail_if_success done)); omega))) ?_ | refine A_cmp (d := 14) rfl rfl (c := false) .eql 3 3 _ _ rfl rfl rfl (by exact congrArg some (decide_eq_false (by (try (dsimp only; fail_if_success done)); omega))) ?_ | refine A_cmp (d := 20) rfl rfl (c := false) .eql 3 3 _ _ rfl rfl rfl (by exact congrArg some (decide_eq_false (by (try (dsimp only; fail_if_success done)); omega))) ?_ | refine A_cmp (d := 25) rfl rfl (c := false) .eql 3 3 _ _ rfl rfl rfl (by exact congrArg some (decide_eq_false (by (try (dsimp only; fail_if_success done)); omega))) ?_ | refine A_cmp (d := 31) rfl rfl (c := false) .eql 3 3 _ _ rfl rfl rfl (by exact congrArg some (decide_eq_false (by (try (dsimp only; fail_if_success done)); omega))) ?_ | refine A_cmp (d := 32) rfl rfl (c := false) .eql 3 3 _ _ rfl rfl rfl (by exact congrArg some (decide_eq_false (by (try (dsimp only; fail_if_success done)); omega))) ?_ | refine A_cmp (d := 37) rfl rfl (c := true) .eql 3 3 _ _ rfl rfl rfl (by exact congrArg some (decide_eq_true (by (try (dsimp only; fail_if_success done)); omega))) ?_)) | refine A_as rfl rfl rfl rfl ?_ | refine A_move rfl rfl _ (.inl rfl) (y := .ptr _ _) rfl ?_ | refine A_store rfl rfl 50 _ _ rfl inf50 rfl rfl rfl rfl (Nat.le_of_ble_eq_true rfl) qN qN ?_ | (refine kL 2122 rfl ?_; refine A_callio rfl rfl Try.func66 (by kernel_rfl) (by kernel_rfl) rfl [0, 1, 2] (by decide) (x7) (by repeat (first | exact .nil | refine .cons rfl ?_ ?_ | exact .row | refine .box ?_ | (first | exact .sel rfl | refine .cons ?_ ?_ | exact .t _))) (by ((repeat (first | exact .nil | exact .ptr rfl | refine .cons ?_ ?_ | exact .t _)); (first | done | fail))) qL (by (try simp only [setSel, upO, upA, upF, gIO, List.map_cons, List.map_nil, List.drop_succ_cons, List.drop_zero, List.drop_nil, List.length_cons, List.length_nil, List.set_cons_zero, List.set_cons_succ, List.cons_append, List.nil_append, List.append_nil, List.getElem?_cons_zero, List.getElem?_cons_succ, List.getElem?_nil, Nat.zero_add, Nat.reduceAdd, Nat.reduceSub]); rfl) (by (try simp only [setSel, upO, upA, upF, gIO, List.map_cons, List.map_nil, List.drop_succ_cons, List.drop_zero, List.drop_nil, List.length_cons, List.length_nil, List.set_cons_zero, List.set_cons_succ, List.cons_append, List.nil_append, List.append_nil, List.getElem?_cons_zero, List.getElem?_cons_succ, List.getElem?_nil, Nat.zero_add, Nat.reduceAdd, Nat.reduceSub]); rfl) ?_) | refine AL.nil ?_)) | with_reducible refine AW.at_region _ ?_ | (with_reducible (first | refine wk0 ?_ | refine wk1 ?_ | refine wk2 ?_ | refine wk3 ?_ | refine wk6 ?_ | refine wk9 ?_ | refine wkb ?_)) | refine kct rfl ?_ | refine kcf rfl ?_)
              all_goals first | (exfalso; omega) | (exact Fin.q Try.results31 (.cons (.agg rfl rfl ud50 rfl inf50 (us := [_, _, _, _]) rfl rfl) .nil) [])
            · rw [if_neg k7]
              dsimp only [stH, stB, aR, aRq] at *
              clear x1 x2 x3 x4 x5 x7
              refine Cio.enter' Try.func31 rfl Try.ntmps31 rfl qM ?_
              repeat' (first | ((with_reducible refine kAL ?_); (first | refine A_box rfl rfl 32 _ rfl rfl (.push qL qN) ?_ | refine A_alloc rfl rfl 50 rfl inf50 (cs := [.t (.v (.int .i64 0)), .t (.v (.int .i64 0)), .t (.v (.int .i64 0)), .t (.v (.int .i64 0))]) rfl (.push qL qN) ?_ | refine A_field rfl rfl 32 _ 0 rfl ud32 rfl inf3 (by decide) 0 rfl rfl ?_ | refine A_load rfl rfl 3 _ rfl ud3 rfl rfl rfl rfl ?_ | (refine kL 105 rfl ?_; (first | refine A_cmp (d := 8) rfl rfl (c := false) .eql 3 3 _ _ rfl rfl rfl (by exact congrArg some (decide_eq_false (by (try (dsimp only; fail_if_success done)); omega))) ?_ | refine A_cmp (d := 14) rfl rfl (c := false) .eql 3 3 _ _ rfl rfl rfl (by exact congrArg some (decide_eq_false (by (try (dsimp only; fail_if_success done)); omega))) ?_ | refine A_cmp (d := 20) rfl rfl (c := false) .eql 3 3 _ _ rfl rfl rfl (by exact congrArg some (decide_eq_false (by (try (dsimp only; fail_if_success done)); omega))) ?_ | refine A_cmp (d := 25) rfl rfl (c := false) .eql 3 3 _ _ rfl rfl rfl (by exact congrArg some (decide_eq_false (by (try (dsimp only; fail_if_success done)); omega))) ?_ | refine A_cmp (d := 31) rfl rfl (c := false) .eql 3 3 _ _ rfl rfl rfl (by exact congrArg some (decide_eq_false (by (try (dsimp only; fail_if_success done)); omega))) ?_ | refine A_cmp (d := 32) rfl rfl (c := false) .eql 3 3 _ _ rfl rfl rfl (by exact congrArg some (decide_eq_false (by (try (dsimp only; fail_if_success done)); omega))) ?_ | refine A_cmp (d := 37) rfl rfl (c := false) .eql 3 3 _ _ rfl rfl rfl (by exact congrArg some (decide_eq_false (by (try (dsimp only; fail_if_success done)); omega))) ?_)) | refine A_as rfl rfl rfl rfl ?_ | refine A_store rfl rfl 50 _ _ rfl inf50 rfl rfl rfl rfl (Nat.le_of_ble_eq_true rfl) qN qN ?_ | (refine kL 1614 rfl ?_; refine A_build rfl rfl 50 _ rfl ud50 inf50 [(0, 1), (1, 1), (2, 1), (3, 1)] (by kernel_rfl) (zs := [.t (.v (.int .i64 0)), .t (.v (.int .i64 0)), .t (.v (.int .i64 0)), .t (.v (.int .i64 0))]) rfl (.cons rfl .nil) (cs := [_, _, _, _]) rfl ?_) | refine AL.nil ?_)) | with_reducible refine AW.at_region _ ?_ | (with_reducible (first | refine wk0 ?_ | refine wk1 ?_ | refine wk2 ?_ | refine wk5 ?_ | refine wk9 ?_ | refine wkb ?_ | refine wkd ?_)) | refine kcf rfl ?_)
              all_goals first | (exfalso; omega) | (exact Fin.q Try.results31 (.cons (.agg rfl rfl ud50 rfl inf50 (us := [_, _, _, _]) rfl rfl) .nil) [])
set_option maxHeartbeats 16000000 in
theorem apply_c (c : DConf) (h : DHall) (t n : Int) (q : DReq) (hq : okQ h q) (hh : okHl h) :
    Cd Try.prog 10 [fCf c, aHl h, i64 t, i64 n, aRq q] (.agg [i64 (applyH c h t n q).ticket, .sl 0 0 h.chans.length, .t (.lst ((applyH c h t n q).waits.map tWt)), .sl 1 0 h.done.length]) [.row 0 66 5 ((applyH c h t n q).chans.map tCh), .row 0 50 4 ((applyH c h t n q).done.map tR)] := by
  have cK := hcopy_c h hh
  have cL := call_c c h.chans.length h.done.length h t n q hq rfl rfl hh
  obtain ⟨h1, h2⟩ := callH_len c h t n q
  have hk1 := hh.d
  unfold applyH
  generalize callH c h t n q = O at *
  obtain ⟨⟨o1, o2, o3, o4⟩, ⟨r1, r2, r3, r4⟩⟩ := O
  obtain ⟨qk, qa, qv, qd, cs⟩ := q
  dsimp only at *
  have h3 : (o4.map tR).length = h.done.length := by rw [List.length_map, h2]
  have h4 : (o2.map tCh).length = h.chans.length := by rw [List.length_map, h1]
  generalize hM : h.chans.length = m at *
  generalize hK : h.done.length = k at *
  dsimp only [stH, stB, aR, aRq, fCf] at *
  by_cases ht : 0 ≤ t ∧ t < k
  · obtain ⟨j, rfl⟩ : ∃ j : Nat, t = j := ⟨t.toNat, by omega⟩
    rw [noteL_in (by omega)]
    obtain ⟨y, hy⟩ : ∃ y, o4[j]? = some y := ⟨_, List.getElem?_eq_getElem (by omega)⟩
    refine Cd.enter' Try.func10 rfl Try.ntmps10 rfl ?_
    repeat' (first | ((with_reducible refine kAL ?_); (first | refine A_box rfl rfl 24 _ rfl rfl (.push qL qN) ?_ | refine A_box rfl rfl 29 _ rfl rfl (.push qL qN) ?_ | refine A_box rfl rfl 32 _ rfl rfl (.push qL qN) ?_ | refine A_alloc rfl rfl 29 rfl inf29 (cs := [.t (.v (.int .i64 0)), AV.nl, AV.nl, AV.nl]) rfl (.push qL qN) ?_ | (refine kL 0 rfl ?_; (first | refine A_mt rfl rfl rfl rfl ?_ | refine A_move rfl rfl _ (.inl rfl) (y := .ptr _ _) rfl ?_)) | refine A_load_agg rfl rfl 32 _ rfl ud32 rfl inf32 rfl rfl (us' := [_, _, _, _, _]) rfl rfl ?_ | (refine kL 1002 rfl ?_; refine A_callio rfl rfl Try.func31 (by kernel_rfl) (by kernel_rfl) rfl [6, 4, 5] (by decide) (cL) (by repeat (first | exact .nil | refine .cons rfl ?_ ?_ | exact .row | refine .box ?_ | (first | exact .sel rfl | refine .cons ?_ ?_ | exact .t _))) (by ((repeat (first | exact .nil | exact .ptr rfl | refine .cons ?_ ?_ | exact .t _ | refine .aggL ?_ | exact .ln _)); (first | done | fail))) qL (by (try simp only [setSel, upO, upA, upF, gIO, List.map_cons, List.map_nil, List.drop_succ_cons, List.drop_zero, List.drop_nil, List.length_cons, List.length_nil, List.set_cons_zero, List.set_cons_succ, List.cons_append, List.nil_append, List.append_nil, List.getElem?_cons_zero, List.getElem?_cons_succ, List.getElem?_nil, Nat.zero_add, Nat.reduceAdd, Nat.reduceSub]); rfl) (by (try simp only [setSel, upO, upA, upF, gIO, List.map_cons, List.map_nil, List.drop_succ_cons, List.drop_zero, List.drop_nil, List.length_cons, List.length_nil, List.set_cons_zero, List.set_cons_succ, List.cons_append, List.nil_append, List.append_nil, List.getElem?_cons_zero, List.getElem?_cons_succ, List.getElem?_nil, Nat.zero_add, Nat.reduceAdd, Nat.reduceSub]); rfl) ?_) | refine A_alloc rfl rfl 50 rfl inf50 (cs := [.t (.v (.int .i64 0)), .t (.v (.int .i64 0)), .t (.v (.int .i64 0)), .t (.v (.int .i64 0))]) rfl (.push qL qN) ?_ | refine A_store rfl rfl 50 _ _ rfl inf50 rfl rfl rfl rfl (Nat.le_of_ble_eq_true rfl) qN qN ?_ | refine A_field rfl rfl 50 _ 0 rfl ud50 rfl inf3 (by decide) 0 rfl rfl ?_ | refine A_store rfl rfl 3 _ _ rfl inf3 rfl rfl rfl rfl (Nat.le_of_ble_eq_true rfl) qN qN ?_ | (refine kL 105 rfl ?_; (first | refine A_cmp (d := 26) rfl rfl (c := true) .geq 3 3 _ _ rfl rfl rfl (by exact congrArg some (decide_eq_true (by (try (dsimp only; fail_if_success done)); omega))) ?_ | refine A_cmp (d := 35) rfl rfl (c := true) .lss 3 3 _ _ rfl rfl rfl (by exact congrArg some (decide_eq_true (by (try (dsimp only; fail_if_success done)); omega))) ?_)) | (refine kL 31 rfl ?_; refine A_nilc rfl rfl _ rfl rfl rfl ?_) | refine A_field rfl rfl 70 _ 0 rfl ud70 rfl inf29 (by decide) 0 rfl rfl ?_ | refine A_field rfl rfl 29 _ 3 rfl ud29 rfl inf27 (by decide) 3 rfl rfl ?_ | refine A_load rfl rfl 27 _ rfl ud27 rfl rfl rfl rfl ?_ | refine A_len rfl rfl 27 _ rfl ud27 rfl ?_ | (refine kL 19 rfl ?_; refine A_pkt rfl rfl _ _ _ rfl rfl rfl ?_) | refine A_load_agg rfl rfl 29 _ rfl ud29 rfl inf29 rfl rfl (us' := [_, _, _, _]) rfl rfl ?_ | refine A_store rfl rfl 29 _ _ rfl inf29 rfl rfl rfl rfl (Nat.le_of_ble_eq_true rfl) qN qN ?_ | refine AL.nil ?_)) | ((with_reducible refine kRG ?_); (first | refine R_load_agg rfl rfl 29 _ rfl ud29 rfl inf29 rfl rfl (us' := [_, _, _, _]) rfl rfl ?_ | (refine kR 778 rfl ?_; (refine R_cl rfl rfl Try.func24 rfl (cK) ?_; refine ⟨4, _, _, _, rfl, qU, qU, qZ, ?_⟩)) | refine R_load_agg rfl rfl 24 _ rfl ud24 rfl inf24 rfl rfl (us' := [_, _, _, _, _, _, _, _, _, _, _]) rfl rfl ?_ | (refine kR 0 rfl ?_; (first | refine R_mt rfl rfl rfl rfl ?_ | refine R_move rfl rfl _ (.inl rfl) (y := .ptr _ _) rfl ?_)) | (refine kR 2254 rfl ?_; refine R_build rfl rfl 70 _ rfl ud70 inf70 [(0, 4), (4, 11), (15, 1), (16, 1)] (by kernel_rfl) (zs := [.t (.v (.int .i64 0)), AV.nl, AV.nl, AV.nl, .t (.v (.int .i64 0)), .t (.v (.int .i64 0)), .t (.v (.int .i64 0)), .t (.v (.int .i64 0)), .t (.v (.int .i64 0)), .t (.v (.int .i64 0)), .t (.v (.int .i64 0)), .t (.v (.int .i64 0)), .t (.v (.int .i64 0)), .t (.v (.int .i64 0)), AV.nl, .t (.v (.int .i64 0)), .t (.v (.int .i64 0))]) rfl (.cons rfl (.cons rfl (.cons rfl (.cons rfl .nil)))) (cs := [_, _, _, _, _, _, _, _, _, _, _, _, _, _, _, _, _]) rfl ?_) | refine R_box (N := 6) rfl rfl 70 _ rfl rfl rfl qN ?_ | refine R_move rfl rfl _ (.inr rfl) (y := .ptr _ _) rfl ?_ | (refine kR 31 rfl ?_; refine R_nilc rfl rfl _ rfl rfl rfl ?_) | refine R_field rfl rfl 70 _ 0 rfl ud70 rfl inf29 (by decide) 0 rfl rfl ?_ | refine R_field rfl rfl 29 _ 3 rfl ud29 rfl inf27 (by decide) 3 rfl rfl ?_ | refine R_load rfl rfl 27 _ rfl ud27 rfl rfl rfl rfl ?_ | refine R_load_agg rfl rfl 50 _ rfl ud50 rfl inf50 rfl rfl (us' := [_, _, _, _]) rfl rfl ?_ | (refine kR 870 rfl ?_; refine R_idx_sl rfl rfl 27 _ _ rfl ud27 inf50 rfl rfl (by (simp; omega)) rfl (by omega) _ (by with_reducible exact Int.toNat_natCast _) (by omega) ?_) | (refine kR 1603 rfl ?_; refine R_store_rp rfl rfl 50 _ _ rfl inf50 (by decide) rfl rfl (by exact map_get (by assumption)) rfl rfl rfl (Nat.le_of_ble_eq_true rfl) (by exact map_set (f := tR) (x := ⟨n, r2, r3, r4⟩)) qN ?_) | refine RG.nil ⟨by kernel_rfl, ?_⟩)) | (with_reducible (first | refine wk0 ?_ | refine wk2 ?_ | refine wk9 ?_ | refine wkb ?_)) | refine kct rfl ?_ | with_reducible refine AW.at_region _ ?_ | refine AW.at_draw 1 mixed 3 [[], [0], [], [], [], [0, 1, 2, 3, 4], [0, 1, 2, 3, 4, 5], [0, 1, 2, 3, 4, 5, 6]] qR ?_ | refine AW.at_draw 5 mixed 0 [[], [0], [0, 1], [0, 1, 2], [0, 1, 2, 3], [], [], [0, 1, 2, 3, 4, 5, 6], [0, 1, 2, 3, 4, 5, 6, 7]] qR ?_)
    all_goals first | (exfalso; omega) | (exact Fin.q Try.results10 (.cons (.agg rfl rfl ud29 rfl inf29 (us := [_, _, _, _]) rfl rfl) .nil) [4, 5])
  · rw [noteL_out (by omega)]
    by_cases h0 : 0 ≤ t
    all_goals
      refine Cd.enter' Try.func10 rfl Try.ntmps10 rfl ?_
      repeat' (first | ((with_reducible refine kAL ?_); (first | refine A_box rfl rfl 24 _ rfl rfl (.push qL qN) ?_ | refine A_box rfl rfl 29 _ rfl rfl (.push qL qN) ?_ | refine A_box rfl rfl 32 _ rfl rfl (.push qL qN) ?_ | refine A_alloc rfl rfl 29 rfl inf29 (cs := [.t (.v (.int .i64 0)), AV.nl, AV.nl, AV.nl]) rfl (.push qL qN) ?_ | (refine kL 0 rfl ?_; (first | refine A_mt rfl rfl rfl rfl ?_ | refine A_move rfl rfl _ (.inl rfl) (y := .ptr _ _) rfl ?_)) | refine A_load_agg rfl rfl 32 _ rfl ud32 rfl inf32 rfl rfl (us' := [_, _, _, _, _]) rfl rfl ?_ | (refine kL 1002 rfl ?_; refine A_callio rfl rfl Try.func31 (by kernel_rfl) (by kernel_rfl) rfl [6, 4, 5] (by decide) (cL) (by repeat (first | exact .nil | refine .cons rfl ?_ ?_ | exact .row | refine .box ?_ | (first | exact .sel rfl | refine .cons ?_ ?_ | exact .t _))) (by ((repeat (first | exact .nil | exact .ptr rfl | refine .cons ?_ ?_ | exact .t _ | refine .aggL ?_ | exact .ln _)); (first | done | fail))) qL (by (try simp only [setSel, upO, upA, upF, gIO, List.map_cons, List.map_nil, List.drop_succ_cons, List.drop_zero, List.drop_nil, List.length_cons, List.length_nil, List.set_cons_zero, List.set_cons_succ, List.cons_append, List.nil_append, List.append_nil, List.getElem?_cons_zero, List.getElem?_cons_succ, List.getElem?_nil, Nat.zero_add, Nat.reduceAdd, Nat.reduceSub]); rfl) (by (try simp only [setSel, upO, upA, upF, gIO, List.map_cons, List.map_nil, List.drop_succ_cons, List.drop_zero, List.drop_nil, List.length_cons, List.length_nil, List.set_cons_zero, List.set_cons_succ, List.cons_append, List.nil_append, List.append_nil, List.getElem?_cons_zero, List.getElem?_cons_succ, List.getElem?_nil, Nat.zero_add, Nat.reduceAdd, Nat.reduceSub]); rfl) ?_) | refine A_alloc rfl rfl 50 rfl inf50 (cs := [.t (.v (.int .i64 0)), .t (.v (.int .i64 0)), .t (.v (.int .i64 0)), .t (.v (.int .i64 0))]) rfl (.push qL qN) ?_ | refine A_store rfl rfl 50 _ _ rfl inf50 rfl rfl rfl rfl (Nat.le_of_ble_eq_true rfl) qN qN ?_ | refine A_field rfl rfl 50 _ 0 rfl ud50 rfl inf3 (by decide) 0 rfl rfl ?_ | refine A_store rfl rfl 3 _ _ rfl inf3 rfl rfl rfl rfl (Nat.le_of_ble_eq_true rfl) qN qN ?_ | (refine kL 105 rfl ?_; (first | refine A_cmp (d := 26) rfl rfl (c := true) .geq 3 3 _ _ rfl rfl rfl (by exact congrArg some (decide_eq_true (by (try (dsimp only; fail_if_success done)); omega))) ?_ | refine A_cmp (d := 26) rfl rfl (c := false) .geq 3 3 _ _ rfl rfl rfl (by exact congrArg some (decide_eq_false (by (try (dsimp only; fail_if_success done)); omega))) ?_ | refine A_cmp (d := 35) rfl rfl (c := false) .lss 3 3 _ _ rfl rfl rfl (by exact congrArg some (decide_eq_false (by (try (dsimp only; fail_if_success done)); omega))) ?_)) | (refine kL 31 rfl ?_; refine A_nilc rfl rfl _ rfl rfl rfl ?_) | refine A_field rfl rfl 70 _ 0 rfl ud70 rfl inf29 (by decide) 0 rfl rfl ?_ | refine A_field rfl rfl 29 _ 3 rfl ud29 rfl inf27 (by decide) 3 rfl rfl ?_ | refine A_load rfl rfl 27 _ rfl ud27 rfl rfl rfl rfl ?_ | refine A_len rfl rfl 27 _ rfl ud27 rfl ?_ | (refine kL 19 rfl ?_; (first | refine A_pkt rfl rfl _ _ _ rfl rfl rfl ?_ | refine A_pkf rfl rfl _ _ _ rfl rfl rfl ?_)) | refine A_load_agg rfl rfl 29 _ rfl ud29 rfl inf29 rfl rfl (us' := [_, _, _, _]) rfl rfl ?_ | refine A_store rfl rfl 29 _ _ rfl inf29 rfl rfl rfl rfl (Nat.le_of_ble_eq_true rfl) qN qN ?_ | refine AL.nil ?_ | refine AL.skip rfl rfl ?_)) | ((with_reducible refine kRG ?_); (first | refine R_load_agg rfl rfl 29 _ rfl ud29 rfl inf29 rfl rfl (us' := [_, _, _, _]) rfl rfl ?_ | (refine kR 778 rfl ?_; (refine R_cl rfl rfl Try.func24 rfl (cK) ?_; refine ⟨4, _, _, _, rfl, qU, qU, qZ, ?_⟩)) | refine R_load_agg rfl rfl 24 _ rfl ud24 rfl inf24 rfl rfl (us' := [_, _, _, _, _, _, _, _, _, _, _]) rfl rfl ?_ | refine R_mt rfl rfl rfl rfl ?_ | (refine kR 2254 rfl ?_; refine R_build rfl rfl 70 _ rfl ud70 inf70 [(0, 4), (4, 11), (15, 1), (16, 1)] (by kernel_rfl) (zs := [.t (.v (.int .i64 0)), AV.nl, AV.nl, AV.nl, .t (.v (.int .i64 0)), .t (.v (.int .i64 0)), .t (.v (.int .i64 0)), .t (.v (.int .i64 0)), .t (.v (.int .i64 0)), .t (.v (.int .i64 0)), .t (.v (.int .i64 0)), .t (.v (.int .i64 0)), .t (.v (.int .i64 0)), .t (.v (.int .i64 0)), AV.nl, .t (.v (.int .i64 0)), .t (.v (.int .i64 0))]) rfl (.cons rfl (.cons rfl (.cons rfl (.cons rfl .nil)))) (cs := [_, _, _, _, _, _, _, _, _, _, _, _, _, _, _, _, _]) rfl ?_) | refine R_box (N := 6) rfl rfl 70 _ rfl rfl rfl qN ?_ | refine R_move rfl rfl _ (.inr rfl) (y := .ptr _ _) rfl ?_ | refine RG.nil ⟨by kernel_rfl, ?_⟩)) | (with_reducible (first | refine wk0 ?_ | refine wk2 ?_ | refine wk9 ?_ | refine wkb ?_ | refine wkd ?_)) | refine kcf rfl ?_ | with_reducible refine AW.at_region _ ?_ | refine AW.at_draw 1 mixed 3 [[], [0], [], [], [], [0, 1, 2, 3, 4], [0, 1, 2, 3, 4, 5], [0, 1, 2, 3, 4, 5, 6]] qR ?_)
      all_goals first | (exfalso; omega) | (exact Fin.q Try.results10 (.cons (.agg rfl rfl ud29 rfl inf29 (us := [_, _, _, _]) rfl rfl) .nil) [4, 5])
end Go.Proofs.Ytphcebioiipdpaa


/- Halls behind calls: the reference's choose, about, cancel, Apply. -/
namespace Go.Proofs.Ytphcebioiipdpaa
set_option linter.unusedVariables false
set_option linter.unusedSimpArgs false
set_option linter.unnecessarySimpa false
open Go.RowKit
set_option maxHeartbeats 32000000
attribute [local irreducible] AL AW RG Fin C Cd Cio thenQ blockQ retQ
set_option maxRecDepth 100000
def aboutH (h : DHall) (q : DReq) : DHall × Rst := if q.kind = 2 then freeH h q.arg else if q.kind = 4 then closeH h q.arg else (h, lookH h ⟨if q.kind = 5 then 5 else 6, q.arg, q.value, q.dflt, q.cases⟩)
end Go.Proofs.Ytphcebioiipdpaa


/- The handles of a hall's channels. -/
namespace Go.Proofs.Ytphcebioiipdpaa
set_option linter.unusedVariables false
set_option linter.unusedSimpArgs false
set_option linter.unnecessarySimpa false
open Go.RowKit
set_option maxHeartbeats 32000000
attribute [local irreducible] AL AW RG Fin C Cd Cio thenQ blockQ retQ
set_option maxRecDepth 100000
def handK (l : List DChan) : Nat → List Int
  | 0 => []
  | k + 1 => if (l.getD k default).used then handK l k ++ [hdl k (l.getD k default).gen] else handK l k
def handH (h : DHall) : List Int := handK h.chans h.chans.length
theorem handK_next {l : List DChan} {k : Nat} {x : DChan} (hx : l[k]? = some x) : handK l (k + 1) = if x.used then handK l k ++ [hdl k x.gen] else handK l k := by
  show (if (l.getD k default).used then _ else _) = _
  rw [getD_of hx]
theorem handK_len (l : List DChan) : ∀ k, (handK l k).length ≤ k
  | 0 => Nat.le_refl _
  | k + 1 => by have := handK_len l k; unfold handK; split <;> simp <;> omega
structure HnS where
  q : Nat
  k : Nat
  O : List Int
set_option maxHeartbeats 8000000 in
theorem handles_c (h : DHall) (h0 : h.chans.length ≤ 2932031007402) : Cd Try.prog 20 [aHl h] (.sl 0 0 (handH h).length) [.row 0 3 1 ((handH h).map tI)] := by
  have h1 : (h.chans.map tCh).length = h.chans.length := List.length_map _
  refine Cd.enter' Try.func20 rfl Try.ntmps20 rfl ?_
  repeat' (first | ((with_reducible refine kAL ?_); (first | refine A_box rfl rfl 29 _ rfl rfl (.push qL qN) ?_ | refine A_move rfl rfl _ (.inr rfl) (y := .nl) rfl ?_ | refine A_field rfl rfl 29 _ 1 rfl ud29 rfl inf25 (by decide) 1 rfl rfl ?_ | refine A_load rfl rfl 25 _ rfl ud25 rfl rfl rfl rfl ?_ | refine A_len rfl rfl 25 _ rfl ud25 rfl ?_ | refine A_mt rfl rfl rfl rfl ?_ | refine AL.nil ?_)) | with_reducible refine AW.at_region _ ?_ | (with_reducible (first | refine wk0 ?_ | refine wk1 ?_ | refine wk2 ?_)))
  all_goals first | (exfalso; omega) | skip
  refine AW.wk (Wk.own 3 rfl 3 1 (.push rfl rfl)) ?_
  refine AW.loopP (fun (x : HnS) => x.q ≤ h.chans.length ∧ x.O = handK h.chans x.q) (fun (x : HnS) => (pu (pu (pu (pu (pu (fun _ => .any) 1 (.ptr 0 0)) 3 (.sl 1 x.k x.O.length)) 7 (.ln (h.chans.map tCh))) 8 (i64 (h.chans.map tCh).length)) 9 (i64 x.q))) (fun (x : HnS) => [.box 29 [i64 h.ticket, .ln (h.chans.map tCh), .ln (h.waits.map tWt), .ln (h.done.map tR)], .row x.k 3 1 (x.O.map tI)]) (fun (x : HnS) => h.chans.length - x.q) (⟨0, 0, []⟩) ?_ ?_ ?_
  · exact ⟨Nat.zero_le _, rfl⟩
  · exact Wk.cq 2
  · rintro ⟨q, k, O⟩ ⟨h2, h3⟩
    dsimp only at h2 h3 ⊢
    have hO := handK_len h.chans q
    rw [← h3] at hO
    have hO2 : (O.map tI).length = O.length := List.length_map _
    by_cases hq : q < h.chans.length
    · obtain ⟨⟨g, cap, used, closed, buf⟩, hc⟩ : ∃ c, h.chans[q]? = some c := ⟨_, List.getElem?_eq_getElem hq⟩
      have hn := handK_next hc
      rw [← h3] at hn
      dsimp only at hn
      cases used
      · repeat' (first | ((with_reducible refine kAL ?_); (first | refine A_as rfl rfl rfl rfl ?_ | refine A_mt rfl rfl rfl rfl ?_ | (refine kL 105 rfl ?_; (first | refine A_cmp (d := 10) rfl rfl (c := true) .lss 3 3 _ _ rfl rfl rfl (by exact congrArg some (decide_eq_true (by (try (dsimp only; fail_if_success done)); omega))) ?_ | refine A_add rfl rfl 3 3 _ _ rfl rfl rfl (by exact wi) ?_)) | (refine kL 806 rfl ?_; refine A_idx rfl rfl 25 _ _ rfl ud25 inf66 (by decide) (by exact .inl rfl) rfl (by omega) _ (by with_reducible exact Int.toNat_natCast _) (by exact map_get (by assumption)) rfl (cs' := [_, _, _, _, _]) rfl ?_) | refine A_load_lp_agg rfl rfl 66 _ rfl ud66 rfl inf66 rfl (us' := [_, _, _, _, _]) rfl rfl ?_ | refine A_alloc rfl rfl 66 rfl inf66 (cs := [.t (.v (.int .i64 0)), .t (.v (.int .i64 0)), .t (.v (.bool false)), .t (.v (.bool false)), AV.nl]) rfl (.push qL qN) ?_ | refine A_store rfl rfl 66 _ _ rfl inf66 rfl rfl rfl rfl (Nat.le_of_ble_eq_true rfl) qN qN ?_ | refine A_field rfl rfl 66 _ 2 rfl ud66 rfl inf4 (by decide) 2 rfl rfl ?_ | refine A_load rfl rfl 4 _ rfl ud4 rfl rfl rfl rfl ?_ | refine AL.nil ?_)) | with_reducible refine AW.at_region _ ?_ | (with_reducible (first | refine wk0 ?_ | refine wk1 ?_ | refine wk2 ?_ | refine wk5 ?_ | refine wkd ?_)) | refine kct rfl ?_ | refine kcf rfl ?_)
        all_goals first | (exfalso; omega) | skip
        refine ⟨⟨q + 1, k, O⟩, ⟨by dsimp only; omega, by dsimp only; rw [hn]; rfl⟩, by dsimp only; omega, ?_⟩
        exact Wk.cq 2
      · have cH := handle_c q g
        repeat' (first | ((with_reducible refine kAL ?_); (first | (refine kL 1 rfl ?_; (first | refine A_as rfl rfl rfl rfl ?_ | refine A_move rfl rfl _ (.inr rfl) (y := .sl _ _ _) rfl ?_)) | (refine kL 12 rfl ?_; refine A_append rfl rfl _ _ 22 rfl ud22 inf3 rfl rfl rfl (by first | (simp <;> fail) | fail) (by exact .all rfl (by rfl)) qB qB (by exact app_one (f := tI) (x := _) (by rfl)) qN qS ?_) | (refine kL 0 rfl ?_; (first | refine A_mt rfl rfl rfl rfl ?_ | refine A_move rfl rfl _ (.inl rfl) (y := .sl _ _ _) rfl ?_)) | (refine kL 105 rfl ?_; (first | refine A_cmp (d := 10) rfl rfl (c := true) .lss 3 3 _ _ rfl rfl rfl (by exact congrArg some (decide_eq_true (by (try (dsimp only; fail_if_success done)); omega))) ?_ | refine A_add rfl rfl 3 3 _ _ rfl rfl rfl (by exact wi) ?_)) | (refine kL 806 rfl ?_; refine A_idx rfl rfl 25 _ _ rfl ud25 inf66 (by decide) (by exact .inl rfl) rfl (by omega) _ (by with_reducible exact Int.toNat_natCast _) (by exact map_get (by assumption)) rfl (cs' := [_, _, _, _, _]) rfl ?_) | refine A_load_lp_agg rfl rfl 66 _ rfl ud66 rfl inf66 rfl (us' := [_, _, _, _, _]) rfl rfl ?_ | refine A_alloc rfl rfl 66 rfl inf66 (cs := [.t (.v (.int .i64 0)), .t (.v (.int .i64 0)), .t (.v (.bool false)), .t (.v (.bool false)), AV.nl]) rfl (.push qL qN) ?_ | refine A_store rfl rfl 66 _ _ rfl inf66 rfl rfl rfl rfl (Nat.le_of_ble_eq_true rfl) qN qN ?_ | (refine kL 2116 rfl ?_; (first | refine A_field rfl rfl 66 _ 2 rfl ud66 rfl inf4 (by decide) 2 rfl rfl ?_ | refine A_field rfl rfl 66 _ 0 rfl ud66 rfl inf3 (by decide) 0 rfl rfl ?_)) | refine A_load rfl rfl 4 _ rfl ud4 rfl rfl rfl rfl ?_ | refine A_load rfl rfl 3 _ rfl ud3 rfl rfl rfl rfl ?_ | (refine kL 1386 rfl ?_; refine A_cl rfl rfl Try.func43 rfl (cH) ?_) | (refine kL 719 rfl ?_; refine A_lit rfl rfl 22 1 _ rfl ud22 inf3 (.cons rfl .nil) (els := [[_]]) rfl (by exact (rfl : _ = List.map tI [_])) rfl (Nat.ne_of_beq_eq_false rfl) (Nat.le_of_ble_eq_true rfl) (Nat.le_of_ble_eq_true rfl) (.push qL qN) ?_) | refine AL.nil ?_)) | with_reducible refine AW.at_region _ ?_ | (with_reducible (first | refine wk0 ?_ | refine wk1 ?_ | refine wk2 ?_ | refine wk5 ?_ | refine wkd ?_)) | refine kct rfl ?_)
        all_goals first | (exfalso; omega) | skip
        refine ⟨⟨q + 1, k + 1, O ++ [hdl q g]⟩, ⟨by dsimp only; omega, by dsimp only; rw [hn]; rfl⟩, by dsimp only; omega, ?_⟩
        rw [List.length_append, List.length_singleton]
        exact Wk.cq 2
    · have e : q = h.chans.length := by omega
      subst e
      subst h3
      repeat' (first | ((with_reducible refine kAL ?_); (first | refine A_move rfl rfl _ (.inr rfl) (y := .sl _ _ _) rfl ?_ | refine A_move rfl rfl _ (.inl rfl) (y := .sl _ _ _) rfl ?_ | refine A_cmp (d := 10) rfl rfl (c := false) .lss 3 3 _ _ rfl rfl rfl (by exact congrArg some (decide_eq_false (by (try (dsimp only; fail_if_success done)); omega))) ?_ | refine AL.nil ?_)) | with_reducible refine AW.at_region _ ?_ | (with_reducible (first | refine wk0 ?_ | refine wk2 ?_ | refine wk4 ?_ | refine wk7 ?_ | refine wk9 ?_ | refine wkb ?_ | refine wkc ?_)) | refine kcf rfl ?_)
      all_goals first | (exfalso; omega) | (exact Fin.q Try.results20 (.cons (.tmp rfl) .nil) [1])
set_option maxHeartbeats 8000000 in
theorem rhandles_c (h : DHall) (h0 : h.chans.length ≤ 2932031007402) : Cd Try.prog 22 [aHl h] (.sl 0 0 (handH h).length) [.row 0 3 1 ((handH h).map tI)] := by
  have h1 : (h.chans.map tCh).length = h.chans.length := List.length_map _
  refine Cd.enter' Try.func22 rfl Try.ntmps22 rfl ?_
  repeat' (first | ((with_reducible refine kAL ?_); (first | refine A_box rfl rfl 29 _ rfl rfl (.push qL qN) ?_ | refine A_move rfl rfl _ (.inr rfl) (y := .nl) rfl ?_ | refine A_field rfl rfl 29 _ 1 rfl ud29 rfl inf25 (by decide) 1 rfl rfl ?_ | refine A_load rfl rfl 25 _ rfl ud25 rfl rfl rfl rfl ?_ | refine A_len rfl rfl 25 _ rfl ud25 rfl ?_ | refine A_mt rfl rfl rfl rfl ?_ | refine AL.nil ?_)) | with_reducible refine AW.at_region _ ?_ | (with_reducible (first | refine wk0 ?_ | refine wk1 ?_ | refine wk2 ?_)))
  all_goals first | (exfalso; omega) | skip
  refine AW.wk (Wk.own 3 rfl 3 1 (.push rfl rfl)) ?_
  refine AW.loopP (fun (x : HnS) => x.q ≤ h.chans.length ∧ x.O = handK h.chans x.q) (fun (x : HnS) => (pu (pu (pu (pu (pu (fun _ => .any) 1 (.ptr 0 0)) 3 (.sl 1 x.k x.O.length)) 7 (.ln (h.chans.map tCh))) 8 (i64 (h.chans.map tCh).length)) 9 (i64 x.q))) (fun (x : HnS) => [.box 29 [i64 h.ticket, .ln (h.chans.map tCh), .ln (h.waits.map tWt), .ln (h.done.map tR)], .row x.k 3 1 (x.O.map tI)]) (fun (x : HnS) => h.chans.length - x.q) (⟨0, 0, []⟩) ?_ ?_ ?_
  · exact ⟨Nat.zero_le _, rfl⟩
  · exact Wk.cq 2
  · rintro ⟨q, k, O⟩ ⟨h2, h3⟩
    dsimp only at h2 h3 ⊢
    have hO := handK_len h.chans q
    rw [← h3] at hO
    have hO2 : (O.map tI).length = O.length := List.length_map _
    by_cases hq : q < h.chans.length
    · obtain ⟨⟨g, cap, used, closed, buf⟩, hc⟩ : ∃ c, h.chans[q]? = some c := ⟨_, List.getElem?_eq_getElem hq⟩
      have hn := handK_next hc
      rw [← h3] at hn
      dsimp only at hn
      cases used
      · repeat' (first | ((with_reducible refine kAL ?_); (first | refine A_as rfl rfl rfl rfl ?_ | refine A_mt rfl rfl rfl rfl ?_ | (refine kL 105 rfl ?_; (first | refine A_cmp (d := 10) rfl rfl (c := true) .lss 3 3 _ _ rfl rfl rfl (by exact congrArg some (decide_eq_true (by (try (dsimp only; fail_if_success done)); omega))) ?_ | refine A_add rfl rfl 3 3 _ _ rfl rfl rfl (by exact wi) ?_)) | (refine kL 806 rfl ?_; refine A_idx rfl rfl 25 _ _ rfl ud25 inf66 (by decide) (by exact .inl rfl) rfl (by omega) _ (by with_reducible exact Int.toNat_natCast _) (by exact map_get (by assumption)) rfl (cs' := [_, _, _, _, _]) rfl ?_) | refine A_load_lp_agg rfl rfl 66 _ rfl ud66 rfl inf66 rfl (us' := [_, _, _, _, _]) rfl rfl ?_ | refine A_alloc rfl rfl 66 rfl inf66 (cs := [.t (.v (.int .i64 0)), .t (.v (.int .i64 0)), .t (.v (.bool false)), .t (.v (.bool false)), AV.nl]) rfl (.push qL qN) ?_ | refine A_store rfl rfl 66 _ _ rfl inf66 rfl rfl rfl rfl (Nat.le_of_ble_eq_true rfl) qN qN ?_ | refine A_field rfl rfl 66 _ 2 rfl ud66 rfl inf4 (by decide) 2 rfl rfl ?_ | refine A_load rfl rfl 4 _ rfl ud4 rfl rfl rfl rfl ?_ | refine AL.nil ?_)) | with_reducible refine AW.at_region _ ?_ | (with_reducible (first | refine wk0 ?_ | refine wk1 ?_ | refine wk2 ?_ | refine wk5 ?_ | refine wkd ?_)) | refine kct rfl ?_ | refine kcf rfl ?_)
        all_goals first | (exfalso; omega) | skip
        refine ⟨⟨q + 1, k, O⟩, ⟨by dsimp only; omega, by dsimp only; rw [hn]; rfl⟩, by dsimp only; omega, ?_⟩
        exact Wk.cq 2
      · have cH := handleR_c q g
        repeat' (first | ((with_reducible refine kAL ?_); (first | (refine kL 1 rfl ?_; (first | refine A_as rfl rfl rfl rfl ?_ | refine A_move rfl rfl _ (.inr rfl) (y := .sl _ _ _) rfl ?_)) | (refine kL 12 rfl ?_; refine A_append rfl rfl _ _ 22 rfl ud22 inf3 rfl rfl rfl (by first | (simp <;> fail) | fail) (by exact .all rfl (by rfl)) qB qB (by exact app_one (f := tI) (x := _) (by rfl)) qN qS ?_) | (refine kL 0 rfl ?_; (first | refine A_mt rfl rfl rfl rfl ?_ | refine A_move rfl rfl _ (.inl rfl) (y := .sl _ _ _) rfl ?_)) | (refine kL 105 rfl ?_; (first | refine A_cmp (d := 10) rfl rfl (c := true) .lss 3 3 _ _ rfl rfl rfl (by exact congrArg some (decide_eq_true (by (try (dsimp only; fail_if_success done)); omega))) ?_ | refine A_add rfl rfl 3 3 _ _ rfl rfl rfl (by exact wi) ?_)) | (refine kL 806 rfl ?_; refine A_idx rfl rfl 25 _ _ rfl ud25 inf66 (by decide) (by exact .inl rfl) rfl (by omega) _ (by with_reducible exact Int.toNat_natCast _) (by exact map_get (by assumption)) rfl (cs' := [_, _, _, _, _]) rfl ?_) | refine A_load_lp_agg rfl rfl 66 _ rfl ud66 rfl inf66 rfl (us' := [_, _, _, _, _]) rfl rfl ?_ | refine A_alloc rfl rfl 66 rfl inf66 (cs := [.t (.v (.int .i64 0)), .t (.v (.int .i64 0)), .t (.v (.bool false)), .t (.v (.bool false)), AV.nl]) rfl (.push qL qN) ?_ | refine A_store rfl rfl 66 _ _ rfl inf66 rfl rfl rfl rfl (Nat.le_of_ble_eq_true rfl) qN qN ?_ | (refine kL 2116 rfl ?_; (first | refine A_field rfl rfl 66 _ 2 rfl ud66 rfl inf4 (by decide) 2 rfl rfl ?_ | refine A_field rfl rfl 66 _ 0 rfl ud66 rfl inf3 (by decide) 0 rfl rfl ?_)) | refine A_load rfl rfl 4 _ rfl ud4 rfl rfl rfl rfl ?_ | refine A_load rfl rfl 3 _ rfl ud3 rfl rfl rfl rfl ?_ | (refine kL 1418 rfl ?_; refine A_cl rfl rfl Try.func44 rfl (cH) ?_) | (refine kL 719 rfl ?_; refine A_lit rfl rfl 22 1 _ rfl ud22 inf3 (.cons rfl .nil) (els := [[_]]) rfl (by exact (rfl : _ = List.map tI [_])) rfl (Nat.ne_of_beq_eq_false rfl) (Nat.le_of_ble_eq_true rfl) (Nat.le_of_ble_eq_true rfl) (.push qL qN) ?_) | refine AL.nil ?_)) | with_reducible refine AW.at_region _ ?_ | (with_reducible (first | refine wk0 ?_ | refine wk1 ?_ | refine wk2 ?_ | refine wk5 ?_ | refine wkd ?_)) | refine kct rfl ?_)
        all_goals first | (exfalso; omega) | skip
        refine ⟨⟨q + 1, k + 1, O ++ [hdl q g]⟩, ⟨by dsimp only; omega, by dsimp only; rw [hn]; rfl⟩, by dsimp only; omega, ?_⟩
        rw [List.length_append, List.length_singleton]
        exact Wk.cq 2
    · have e : q = h.chans.length := by omega
      subst e
      subst h3
      repeat' (first | ((with_reducible refine kAL ?_); (first | refine A_move rfl rfl _ (.inr rfl) (y := .sl _ _ _) rfl ?_ | refine A_move rfl rfl _ (.inl rfl) (y := .sl _ _ _) rfl ?_ | refine A_cmp (d := 10) rfl rfl (c := false) .lss 3 3 _ _ rfl rfl rfl (by exact congrArg some (decide_eq_false (by (try (dsimp only; fail_if_success done)); omega))) ?_ | refine AL.nil ?_)) | with_reducible refine AW.at_region _ ?_ | (with_reducible (first | refine wk0 ?_ | refine wk2 ?_ | refine wk4 ?_ | refine wk7 ?_ | refine wk9 ?_ | refine wkb ?_ | refine wkc ?_)) | refine kcf rfl ?_)
      all_goals first | (exfalso; omega) | (exact Fin.q Try.results22 (.cons (.tmp rfl) .nil) [1])
theorem handK_b (l : List DChan) : ∀ k, ∀ z ∈ handK l k, 0 ≤ z ∧ z ≤ 32767
  | 0, z, hz => by cases hz
  | k + 1, z, hz => by
    have hh : ∀ p g : Int, 0 ≤ hdl p g ∧ hdl p g ≤ 32767 := fun p g => by unfold hdl; split <;> omega
    unfold handK at hz
    split at hz
    · rcases List.mem_append.1 hz with hz | hz
      · exact handK_b l k z hz
      · rw [List.mem_singleton] at hz; subst hz; exact hh _ _
    · exact handK_b l k z hz
theorem handH_fnd {h : DHall} {z : Int} (hz : z ∈ handH h) : fndOk h z = decide (z ≠ 0) := by
  have : ∀ k, k ≤ h.chans.length → z ∈ handK h.chans k → fndOk h z = decide (z ≠ 0) := by
    intro k
    induction k with
    | zero => intro _ hm; cases hm
    | succ k ih =>
      intro hk hm
      obtain ⟨a, ha⟩ : ∃ a, h.chans[k]? = some a := ⟨_, List.getElem?_eq_getElem (by omega)⟩
      rw [handK_next ha] at hm
      split at hm
      · rename_i hu
        rcases List.mem_append.1 hm with hm | hm
        · exact ih (by omega) hm
        · rw [List.mem_singleton] at hm
          subst hm
          by_cases hc : 0 ≤ (k : Int) ∧ (k : Int) ≤ 7 ∧ 1 ≤ a.gen ∧ a.gen ≤ 4095
          · have e : hdl k a.gen = a.gen * 8 + k := by unfold hdl; rw [if_pos hc]
            have h8 : 8 ≤ hdl k a.gen ∧ hdl k a.gen ≤ 32767 := by rw [e]; omega
            obtain ⟨p1, p2, p3⟩ := pl_yes h8.1 h8.2
            have q1 : plP (hdl k a.gen) = (k : Int) := by rw [p1, e]; omega
            have q2 : plG (hdl k a.gen) = a.gen := by rw [p2, e]; omega
            rw [(fnd_at p3 q1 ha).1, hu, q2, decide_eq_true rfl, decide_eq_true (by omega)]; rfl
          · have e : hdl k a.gen = 0 := by unfold hdl; rw [if_neg hc]
            rw [e]
            exact fnd_bad (by decide)
      · exact ih (by omega) hm
  exact this h.chans.length (Nat.le_refl _) hz
end Go.Proofs.Ytphcebioiipdpaa


/- Halls at first: the reference's Start. -/
namespace Go.Proofs.Ytphcebioiipdpaa
set_option linter.unusedVariables false
set_option linter.unusedSimpArgs false
set_option linter.unnecessarySimpa false
open Go.RowKit
set_option maxHeartbeats 32000000
attribute [local irreducible] AL AW RG Fin C Cd Cio thenQ blockQ retQ
set_option maxRecDepth 100000
def z0C : DChan := ⟨0, 0, false, false, []⟩
def stC (s : List Int) (p i : Nat) : List DChan := (List.range p).map fun j => if j < i ∧ j < s.length then ⟨1, s.getD j 0, true, false, []⟩ else ⟨0, 0, false, false, []⟩
theorem stC_len (s : List Int) (p i : Nat) : (stC s p i).length = p := by simp [stC]
theorem stC_get (s : List Int) {p i j : Nat} (h : j < p) : (stC s p i)[j]? = some (if j < i ∧ j < s.length then ⟨1, s.getD j 0, true, false, []⟩ else ⟨0, 0, false, false, []⟩) := by unfold stC; rw [List.getElem?_map, List.getElem?_range h]; rfl
theorem stC_zero (s : List Int) (p : Nat) : stC s p 0 = List.replicate p ⟨0, 0, false, false, []⟩ := by
  refine List.ext_getElem? fun j => ?_
  by_cases h : j < p
  · rw [stC_get s h, List.getElem?_replicate, if_pos h, if_neg (by omega)]
  · rw [List.getElem?_eq_none (by rw [stC_len]; omega), List.getElem?_eq_none (by simp; omega)]
theorem stC_next {s : List Int} {p i : Nat} {x : Int} (hi : i < p) (hx : s[i]? = some x) : stC s p (i + 1) = (stC s p i).set i ⟨1, x, true, false, []⟩ := by
  have hl := get_lt hx
  refine List.ext_getElem? fun j => ?_
  rw [List.getElem?_set]
  by_cases h : j < p
  · rw [stC_get s h, stC_get s h, stC_len]
    by_cases e : i = j
    · subst e
      rw [if_pos rfl, if_pos hi, if_pos ⟨by omega, hl⟩, List.getD_eq_getElem?_getD, hx]; rfl
    · rw [if_neg e]
      by_cases q : j < i ∧ j < s.length
      · rw [if_pos q, if_pos ⟨by omega, q.2⟩]
      · rw [if_neg q, if_neg (by omega)]
  · rw [List.getElem?_eq_none (by rw [stC_len]; omega), if_neg (by omega), List.getElem?_eq_none (by rw [stC_len]; omega)]
def plN (c : DConf) : Nat := (max 0 (min c.chans 8)).toNat
def thN (c : DConf) : Nat := (max 0 (min c.threads 64)).toNat
theorem plN_e (c : DConf) : ((plN c : Nat) : Int) = max 0 (min c.chans 8) ∧ plN c ≤ 8 := by unfold plN; omega
theorem thN_e (c : DConf) : ((thN c : Nat) : Int) = max 0 (min c.threads 64) ∧ thN c ≤ 64 := by unfold thN; omega
attribute [local irreducible] stC plN thN
end Go.Proofs.Ytphcebioiipdpaa


/- Halls at first: the program's Start. -/
namespace Go.Proofs.Ytphcebioiipdpaa
set_option linter.unusedVariables false
set_option linter.unusedSimpArgs false
set_option linter.unnecessarySimpa false
open Go.RowKit
set_option maxHeartbeats 32000000
attribute [local irreducible] AL AW RG Fin C Cd Cio thenQ blockQ retQ
set_option maxRecDepth 100000
theorem stC_ge {s : List Int} {p i : Nat} (h : p ≤ i) : stC s p (i + 1) = stC s p i := by
  refine List.ext_getElem? fun j => ?_
  by_cases hj : j < p
  · rw [stC_get s hj, stC_get s hj]
    by_cases q : j < s.length
    · rw [if_pos ⟨by omega, q⟩, if_pos ⟨by omega, q⟩]
    · rw [if_neg (by omega), if_neg (by omega)]
  · rw [List.getElem?_eq_none (by rw [stC_len]; omega), List.getElem?_eq_none (by rw [stC_len]; omega)]
theorem stC_full (s : List Int) (p : Nat) : stC s p s.length = stC s p p := by
  refine List.ext_getElem? fun j => ?_
  by_cases hj : j < p
  · rw [stC_get s hj, stC_get s hj]
    by_cases q : j < s.length
    · rw [if_pos ⟨q, q⟩, if_pos ⟨hj, q⟩]
    · rw [if_neg (by omega), if_neg (by omega)]
  · rw [List.getElem?_eq_none (by rw [stC_len]; omega), List.getElem?_eq_none (by rw [stC_len]; omega)]
set_option maxHeartbeats 8000000 in
theorem hstart_c (c : DConf) (hs0 : c.start.length ≤ 1152921504606846976) : Cd Try.prog 13 [aCf c] (.agg [i64 0, .sl 0 0 (plN c), .sl 1 0 (thN c), .sl 2 0 (thN c)]) [.row 0 66 5 ((stC c.start (plN c) (plN c)).map tCh), .row 0 43 4 ((List.replicate (thN c) (⟨false, 0, 0, []⟩ : DWait)).map tWt), .row 0 50 4 ((List.replicate (thN c) (⟨0, 0, 0, 0⟩ : Rst)).map tR)] := by
  have h1 : (c.start.map tI).length = c.start.length := List.length_map _
  have hp : ((plN c : Nat) : Int) = max (min c.chans 8) 0 := by have := plN_e c; omega
  have ht : ((thN c : Nat) : Int) = max (min c.threads 64) 0 := by have := thN_e c; omega
  have hp8 := (plN_e c).2
  have ht64 := (thN_e c).2
  generalize plN c = p at *
  generalize thN c = th at *
  refine Cd.enter' Try.func13 rfl Try.ntmps13 rfl ?_
  repeat' (first | ((with_reducible refine kAL ?_); (first | refine A_box rfl rfl 24 _ rfl rfl (.push qL qN) ?_ | refine A_alloc rfl rfl 29 rfl inf29 (cs := [.t (.v (.int .i64 0)), AV.nl, AV.nl, AV.nl]) rfl (.push qL qN) ?_ | refine A_field rfl rfl 24 _ 10 rfl ud24 rfl inf22 (by decide) 10 rfl rfl ?_ | refine A_load rfl rfl 22 _ rfl ud22 rfl rfl rfl rfl ?_ | refine A_len rfl rfl 22 _ rfl ud22 rfl ?_ | refine A_mt rfl rfl rfl rfl ?_ | refine AL.nil ?_)) | ((with_reducible refine kRG ?_); (first | (refine kR 772 rfl ?_; (first | refine R_field rfl rfl 24 _ 2 rfl ud24 rfl inf3 (by decide) 2 rfl rfl ?_ | refine R_field rfl rfl 24 _ 1 rfl ud24 rfl inf3 (by decide) 1 rfl rfl ?_)) | refine R_load rfl rfl 3 _ rfl ud3 rfl rfl rfl rfl ?_ | (refine kR 12 rfl ?_; (first | refine R_min rfl rfl _ _ _ rfl rfl rfl ?_ | refine R_max rfl rfl _ _ _ rfl rfl rfl ?_)) | refine R_as rfl rfl rfl rfl ?_ | refine R_mt rfl rfl rfl rfl ?_ | (refine kR 816 rfl ?_; refine R_make (N := 2) rfl rfl 25 _ _ rfl ud25 inf66 rfl (zs := [(.v (.int .i64 0)), (.v (.int .i64 0)), (.v (.bool false)), (.v (.bool false)), .lst []]) rfl rfl rfl p (by omega) (by omega) qB qB (by exact rep_map (f := tCh) (x := ⟨_, _, _, _, []⟩)) rfl qN ?_) | (refine kR 848 rfl ?_; refine R_make (N := 3) rfl rfl 26 _ _ rfl ud26 inf43 rfl (zs := [(.v (.bool false)), (.v (.int .i64 0)), (.v (.int .i64 0)), .lst []]) rfl rfl rfl th (by omega) (by omega) qB qB (by exact rep_map (f := tWt) (x := ⟨_, _, _, []⟩)) rfl qN ?_) | (refine kR 880 rfl ?_; refine R_make (N := 4) rfl rfl 27 _ _ rfl ud27 inf50 rfl (zs := [(.v (.int .i64 0)), (.v (.int .i64 0)), (.v (.int .i64 0)), (.v (.int .i64 0))]) rfl rfl rfl th (by omega) (by omega) qB qB (by exact rep_map (f := tR) (x := ⟨_, _, _, _⟩)) rfl qN ?_) | (refine kR 942 rfl ?_; refine R_build rfl rfl 29 _ rfl ud29 inf29 [(0, 1), (1, 1), (2, 1), (3, 1)] (by kernel_rfl) (zs := [.t (.v (.int .i64 0)), AV.nl, AV.nl, AV.nl]) rfl (.cons rfl (.cons rfl (.cons rfl .nil))) (cs := [_, _, _, _]) rfl ?_) | refine R_alloc (N := 5) rfl rfl 29 rfl inf29 (cs := [.t (.v (.int .i64 0)), AV.nl, AV.nl, AV.nl]) rfl rfl qN ?_ | refine R_store rfl rfl 29 _ _ rfl inf29 rfl rfl rfl rfl (Nat.le_of_ble_eq_true rfl) qN qN ?_ | refine RG.nil ⟨by kernel_rfl, ?_⟩)) | (with_reducible (first | refine wk0 ?_ | refine wk1 ?_ | refine wk2 ?_)) | with_reducible refine AW.at_region _ ?_ | refine AW.at_draw 1 mixed 0 [[], [0], [0, 1], [0, 1, 2], [], [4], [4, 5], [4, 5, 6], [0, 1, 2, 3], [0, 1, 2, 3, 4, 5, 6, 7, 8]] qR ?_ | refine AW.at_draw 2 mixed 4 [[], [0], [], [2], [], [4], [0, 1, 2, 3, 4, 5], [], [0, 1, 2, 3, 4, 5, 6, 7]] qR ?_)
  all_goals first | (exfalso; omega) | skip
  refine AW.loopP (fun (i : Nat) => i ≤ c.start.length) (fun (i : Nat) => (pu (pu (pu (pu (pu (pu (pu (fun _ => .any) 1 (.ptr 0 0)) 2 (.ptr 1 0)) 3 (i64 p)) 5 (.ptr 5 0)) 24 (.ln (c.start.map tI))) 25 (i64 (c.start.map tI).length)) 26 (i64 i))) (fun (i : Nat) => [.box 24 [i64 c.kind, i64 c.threads, i64 c.chans, i64 c.cap, i64 c.nodes, i64 c.retire, i64 c.patience, i64 c.tags, i64 c.seqs, i64 c.gens, .ln (c.start.map tI)], .box 29 [i64 0, .nl, .nl, .nl], .row 0 66 5 ((stC c.start p i).map tCh), .row 0 43 4 ((List.replicate th (⟨false, 0, 0, []⟩ : DWait)).map tWt), .row 0 50 4 ((List.replicate th (⟨0, 0, 0, 0⟩ : Rst)).map tR), .box 29 [i64 0, .sl 2 0 p, .sl 3 0 th, .sl 4 0 th]]) (fun (i : Nat) => c.start.length - i) (0) ?_ ?_ ?_
  · exact Nat.zero_le _
  · rw [stC_zero, hp]
    exact Wk.cq 6
  · intro i hi
    have hL := stC_len c.start p i
    have hL2 : ((stC c.start p i).map tCh).length = p := by rw [List.length_map, hL]
    by_cases hc1 : i < c.start.length
    · obtain ⟨x, hx⟩ : ∃ x, c.start[i]? = some x := ⟨_, List.getElem?_eq_getElem hc1⟩
      by_cases hip : i < p
      · have hg : (stC c.start p i)[i]? = some ⟨0, 0, false, false, []⟩ := by rw [stC_get _ hip, if_neg (by omega)]
        have hs := stC_next hip hx
        generalize stC c.start p i = L0 at *
        clear hp ht hs0
        repeat' (first | ((with_reducible refine kAL ?_); (first | refine A_mt rfl rfl rfl rfl ?_ | (refine kL 105 rfl ?_; (first | refine A_cmp (d := 27) rfl rfl (c := true) .lss 3 3 _ _ rfl rfl rfl (by exact congrArg some (decide_eq_true (by (try (dsimp only; fail_if_success done)); omega))) ?_ | refine A_cmp (d := 33) rfl rfl (c := true) .lss 3 3 _ _ rfl rfl rfl (by exact congrArg some (decide_eq_true (by (try (dsimp only; fail_if_success done)); omega))) ?_ | refine A_add rfl rfl 3 3 _ _ rfl rfl rfl (by exact wi) ?_)) | (refine kL 710 rfl ?_; refine A_idx rfl rfl 22 _ _ rfl ud22 inf3 (by decide) (by exact .inl rfl) rfl (by omega) _ (by with_reducible exact Int.toNat_natCast _) (by exact map_get (by assumption)) rfl (cs' := [_]) rfl ?_) | refine A_load_lp rfl rfl 3 _ rfl ud3 rfl rfl rfl ?_ | refine A_as rfl rfl rfl rfl ?_ | refine A_field rfl rfl 29 _ 1 rfl ud29 rfl inf25 (by decide) 1 rfl rfl ?_ | refine A_load rfl rfl 25 _ rfl ud25 rfl rfl rfl rfl ?_ | (refine kL 2126 rfl ?_; refine A_build rfl rfl 66 _ rfl ud66 inf66 [(0, 1), (1, 1), (2, 1), (3, 1), (4, 1)] (by kernel_rfl) (zs := [.t (.v (.int .i64 0)), .t (.v (.int .i64 0)), .t (.v (.bool false)), .t (.v (.bool false)), AV.nl]) rfl (.cons rfl (.cons rfl (.cons rfl .nil))) (cs := [_, _, _, _, _]) rfl ?_) | (refine kL 806 rfl ?_; refine A_idx_sl rfl rfl 25 _ _ rfl ud25 inf66 rfl rfl (by (simp; omega)) rfl (by omega) _ (by with_reducible exact Int.toNat_natCast _) (by omega) ?_) | (refine kL 2115 rfl ?_; refine A_store_rp rfl rfl 66 _ _ rfl inf66 (by decide) rfl rfl (by exact map_get (by assumption)) rfl rfl rfl (Nat.le_of_ble_eq_true rfl) (by exact map_set (f := tCh) (x := ⟨1, x, true, false, []⟩)) qN ?_) | refine AL.nil ?_)) | (with_reducible (first | refine wk0 ?_ | refine wk1 ?_ | refine wk2 ?_ | refine wk5 ?_ | refine wkd ?_)) | refine kct rfl ?_ | with_reducible refine AW.at_region _ ?_)
        all_goals first | (exfalso; omega) | skip
        refine ⟨i + 1, by omega, by omega, ?_⟩
        rw [hs]
        exact Wk.cq 6
      · have hs : stC c.start p (i + 1) = stC c.start p i := stC_ge (by omega)
        generalize stC c.start p i = L0 at *
        clear hp ht
        repeat' (first | ((with_reducible refine kAL ?_); (first | refine A_mt rfl rfl rfl rfl ?_ | (refine kL 105 rfl ?_; (first | refine A_cmp (d := 27) rfl rfl (c := true) .lss 3 3 _ _ rfl rfl rfl (by exact congrArg some (decide_eq_true (by (try (dsimp only; fail_if_success done)); omega))) ?_ | refine A_cmp (d := 33) rfl rfl (c := false) .lss 3 3 _ _ rfl rfl rfl (by exact congrArg some (decide_eq_false (by (try (dsimp only; fail_if_success done)); omega))) ?_ | refine A_add rfl rfl 3 3 _ _ rfl rfl rfl (by exact wi) ?_)) | (refine kL 710 rfl ?_; refine A_idx rfl rfl 22 _ _ rfl ud22 inf3 (by decide) (by exact .inl rfl) rfl (by omega) _ (by with_reducible exact Int.toNat_natCast _) (by exact map_get (by assumption)) rfl (cs' := [_]) rfl ?_) | refine A_load_lp rfl rfl 3 _ rfl ud3 rfl rfl rfl ?_ | refine A_as rfl rfl rfl rfl ?_ | refine AL.nil ?_)) | (with_reducible (first | refine wk0 ?_ | refine wk1 ?_ | refine wk2 ?_ | refine wk5 ?_ | refine wkd ?_)) | refine kct rfl ?_ | refine kcf rfl ?_ | with_reducible refine AW.at_region _ ?_)
        all_goals first | (exfalso; omega) | skip
        refine ⟨i + 1, by omega, by omega, ?_⟩
        rw [hs]
        exact Wk.cq 6
    · have e : i = c.start.length := by omega
      subst e
      rw [stC_full]
      repeat' (first | ((with_reducible refine kAL ?_); (first | refine A_cmp (d := 27) rfl rfl (c := false) .lss 3 3 _ _ rfl rfl rfl (by exact congrArg some (decide_eq_false (by (try (dsimp only; fail_if_success done)); omega))) ?_ | refine A_load_agg rfl rfl 29 _ rfl ud29 rfl inf29 rfl rfl (us' := [_, _, _, _]) rfl rfl ?_ | refine A_store rfl rfl 29 _ _ rfl inf29 rfl rfl rfl rfl (Nat.le_of_ble_eq_true rfl) qN qN ?_ | refine AL.nil ?_)) | (with_reducible (first | refine wk0 ?_ | refine wk2 ?_ | refine wk4 ?_ | refine wk7 ?_ | refine wk9 ?_ | refine wkb ?_ | refine wkc ?_)) | refine kcf rfl ?_ | with_reducible refine AW.at_region _ ?_)
      all_goals first | (exfalso; omega) | (exact Fin.q Try.results13 (.cons (.agg rfl rfl ud29 rfl inf29 (us := [_, _, _, _]) rfl rfl) .nil) [2, 3, 4])
end Go.Proofs.Ytphcebioiipdpaa


/- Whether the same calls wait: slices.Equal of cases, waits.same, waits.Same. -/
namespace Go.Proofs.Ytphcebioiipdpaa
set_option linter.unusedVariables false
set_option linter.unusedSimpArgs false
set_option linter.unnecessarySimpa false
open Go.RowKit
set_option maxHeartbeats 32000000
attribute [local irreducible] AL AW RG Fin C Cd Cio thenQ blockQ retQ
set_option maxRecDepth 100000
theorem eqCs_c (a b : List DCase) (ha : a.length ≤ 1152921504606846976) : Cd Try.prog 103 [.ln (a.map tCs), .ln (b.map tCs)] (bo (decide (a = b))) [] := by
  have h1 : (a.map tCs).length = a.length := List.length_map _
  have h2 : (b.map tCs).length = b.length := List.length_map _
  refine Cd.enter' Try.func103 rfl Try.ntmps103 rfl ?_
  repeat' (first | ((with_reducible refine kAL ?_); (first | refine A_as rfl rfl rfl rfl ?_ | (refine kL 0 rfl ?_; (first | refine A_mt rfl rfl rfl rfl ?_ | refine A_move rfl rfl _ (.inl rfl) (y := .ln _) rfl ?_)) | refine A_len rfl rfl 30 _ rfl ud30 rfl ?_ | refine A_cmp (d := 10) rfl rfl .neq 3 3 _ _ rfl rfl rfl rfl ?_ | refine AL.nil ?_)) | (with_reducible (first | refine wk0 ?_ | refine wk1 ?_ | refine wk2 ?_ | refine wk3 ?_ | refine wk9 ?_ | refine wkb ?_ | refine wkd ?_)) | refine kcp rfl (fun hc => ?_) (fun hc => ?_) | with_reducible refine AW.at_region _ ?_)
  · refine Fin.q Try.results103 (.cons (.tmp rfl) .nil) [] (hr := (.t ?_))
    have : a ≠ b := by rintro rfl; exact hc rfl
    simp [this]
  · refine AW.loopP (fun (i : Nat) => ∀ j, j < i → a.getD j default = b.getD j default) (fun (i : Nat) => (pu (pu (pu (pu (pu (fun _ => .any) 0 (.ln (a.map tCs))) 1 (.ln (b.map tCs))) 4 (bo false)) 12 (i64 (a.map tCs).length)) 13 (i64 i))) (fun (i : Nat) => []) (fun (i : Nat) => a.length + 1 - i) (0) ?_ ?_ ?_
    · intro j hj; omega
    · exact Wk.cq 0
    · intro i hi
      repeat' (first | ((with_reducible refine kAL ?_); (first | refine A_as rfl rfl rfl rfl ?_ | refine A_mt rfl rfl rfl rfl ?_ | (refine kL 105 rfl ?_; (first | refine A_add rfl rfl 3 3 _ _ rfl rfl rfl (by first | exact wi | rfl) ?_ | refine A_cmp (d := 14) rfl rfl .lss 3 3 _ _ rfl rfl rfl rfl ?_)) | refine AL.nil ?_)) | ((with_reducible refine kRG ?_); (first | (refine kR 0 rfl ?_; (first | refine R_mt rfl rfl rfl rfl ?_ | refine R_move rfl rfl _ (.inl rfl) (y := .ln _) rfl ?_)) | (refine kR 966 rfl ?_; refine R_idx rfl rfl 30 _ _ rfl ud30 inf45 (by decide) (by exact .inl rfl) rfl (by omega) _ (by with_reducible exact Int.toNat_natCast _) (by exact map_get (get_D (x := (default : DCase)) (by omega))) rfl (cs' := [_, _, _]) rfl ?_) | refine R_load_lp_agg rfl rfl 45 _ rfl ud45 rfl inf45 rfl (us' := [_, _, _]) rfl rfl ?_ | (refine kR 1449 rfl ?_; (refine R_nes rfl rfl 45 45 _ _ rfl rfl rfl (by kernel_rfl) (fun w => eqs45 9998 _ _ _ _ _ _ w) (by rfl) ?_)) | refine RG.nil ⟨by kernel_rfl, ?_⟩)) | (with_reducible (first | refine wk0 ?_ | refine wk1 ?_ | refine wk2 ?_ | refine wk3 ?_ | refine wk4 ?_ | refine wk5 ?_ | refine wk6 ?_ | refine wk7 ?_ | refine wk9 ?_ | refine wkb ?_ | refine wkc ?_ | refine wkd ?_)) | refine kcp rfl (fun hc => ?_) (fun hc => ?_) | refine kcn rfl (fun hc => ?_) (fun hc => ?_) | with_reducible refine AW.at_region _ ?_ | refine AW.at_draw 6 mixed 0 [[], [], [0, 1], [0, 1, 2], [], [], [4, 5], [4, 5, 6], [0, 1, 2, 3, 4, 5, 6, 7]] qR ?_)
      · refine Fin.q Try.results103 (.cons (.tmp rfl) .nil) [] (hr := (.t ?_))
        have : a ≠ b := by
          rintro rfl; exact absurd hc (by simp)
        simp [this]
      · refine ⟨i + 1, fun j hj => ?_, by omega, ?_⟩
        · by_cases e : j = i
          · subst e; exact DCase_ext (by simpa using hc)
          · exact hi j (by omega)
        · exact Wk.cq 0
      · refine Fin.q Try.results103 (.cons (.tmp rfl) .nil) [] (hr := (.t ?_))
        have : a = b := all_eq (z := default) (by omega) fun j hj => hi j (by omega)
        simp [this]
abbrev aW (w : DWait) : AV := .agg [bo w.on, i64 w.ticket, i64 w.seq, .ln (w.cases.map tCs)]
set_option maxHeartbeats 8000000 in
theorem wsame1_c (x y : DWait) (hx : x.cases.length ≤ 1152921504606846976) : Cd Try.prog 78 [aW x, aW y] (bo (decide (x = y))) [] := by
  have cC := eqCs_c x.cases y.cases hx
  obtain ⟨x1, x2, x3, x4⟩ := x
  obtain ⟨y1, y2, y3, y4⟩ := y
  dsimp only at cC
  by_cases e : (⟨x1, x2, x3, x4⟩ : DWait) = ⟨y1, y2, y3, y4⟩
  · cases e
    rw [decide_eq_true rfl] at cC ⊢
    cases x1
    all_goals
      refine Cd.enter' Try.func78 rfl Try.ntmps78 rfl ?_
      repeat' (first | ((with_reducible refine kAL ?_); (first | refine A_box rfl rfl 43 _ rfl rfl (.push qL qN) ?_ | refine A_as rfl rfl rfl rfl ?_ | (refine kL 1380 rfl ?_; (first | refine A_field rfl rfl 43 _ 0 rfl ud43 rfl inf4 (by decide) 0 rfl rfl ?_ | refine A_field rfl rfl 43 _ 1 rfl ud43 rfl inf3 (by decide) 1 rfl rfl ?_ | refine A_field rfl rfl 43 _ 2 rfl ud43 rfl inf3 (by decide) 2 rfl rfl ?_ | refine A_field rfl rfl 43 _ 3 rfl ud43 rfl inf30 (by decide) 3 rfl rfl ?_)) | refine A_load rfl rfl 4 _ rfl ud4 rfl rfl rfl rfl ?_ | refine A_beq rfl rfl 4 4 _ _ rfl ud4 rfl rfl ?_ | refine A_mt rfl rfl rfl rfl ?_ | refine A_load rfl rfl 3 _ rfl ud3 rfl rfl rfl rfl ?_ | (refine kL 105 rfl ?_; (first | refine A_cmp (d := 15) rfl rfl (c := true) .eql 3 3 _ _ rfl rfl rfl (by exact congrArg some (decide_eq_true (by (try (dsimp only; fail_if_success done)); omega))) ?_ | refine A_cmp (d := 22) rfl rfl (c := true) .eql 3 3 _ _ rfl rfl rfl (by exact congrArg some (decide_eq_true (by (try (dsimp only; fail_if_success done)); omega))) ?_)) | refine A_pick rfl rfl _ _ _ rfl rfl rfl rfl rfl ?_ | refine A_load rfl rfl 30 _ rfl ud30 rfl rfl rfl rfl ?_ | (refine kL 3306 rfl ?_; refine A_cl rfl rfl Try.func103 rfl (cC) ?_) | refine AL.nil ?_)) | with_reducible refine AW.at_region _ ?_ | (with_reducible (first | refine wk0 ?_ | refine wk2 ?_ | refine wk9 ?_ | refine wkb ?_)))
      all_goals first | (exfalso; omega) | (exact Fin.q Try.results78 (.cons (.tmp rfl) .nil) [])
  · rw [decide_eq_false e]
    by_cases e1 : x1 = y1
    · by_cases e2 : x2 = y2
      · by_cases e3 : x3 = y3
        · have e4 : x4 ≠ y4 := by rintro rfl; subst e1 e2 e3; exact e rfl
          rw [decide_eq_false e4] at cC
          subst e1 e2 e3
          cases x1
          all_goals
            refine Cd.enter' Try.func78 rfl Try.ntmps78 rfl ?_
            repeat' (first | ((with_reducible refine kAL ?_); (first | refine A_box rfl rfl 43 _ rfl rfl (.push qL qN) ?_ | refine A_as rfl rfl rfl rfl ?_ | (refine kL 1380 rfl ?_; (first | refine A_field rfl rfl 43 _ 0 rfl ud43 rfl inf4 (by decide) 0 rfl rfl ?_ | refine A_field rfl rfl 43 _ 1 rfl ud43 rfl inf3 (by decide) 1 rfl rfl ?_ | refine A_field rfl rfl 43 _ 2 rfl ud43 rfl inf3 (by decide) 2 rfl rfl ?_ | refine A_field rfl rfl 43 _ 3 rfl ud43 rfl inf30 (by decide) 3 rfl rfl ?_)) | refine A_load rfl rfl 4 _ rfl ud4 rfl rfl rfl rfl ?_ | refine A_beq rfl rfl 4 4 _ _ rfl ud4 rfl rfl ?_ | refine A_mt rfl rfl rfl rfl ?_ | refine A_load rfl rfl 3 _ rfl ud3 rfl rfl rfl rfl ?_ | (refine kL 105 rfl ?_; (first | refine A_cmp (d := 15) rfl rfl (c := true) .eql 3 3 _ _ rfl rfl rfl (by exact congrArg some (decide_eq_true (by (try (dsimp only; fail_if_success done)); omega))) ?_ | refine A_cmp (d := 22) rfl rfl (c := true) .eql 3 3 _ _ rfl rfl rfl (by exact congrArg some (decide_eq_true (by (try (dsimp only; fail_if_success done)); omega))) ?_)) | refine A_pick rfl rfl _ _ _ rfl rfl rfl rfl rfl ?_ | refine A_load rfl rfl 30 _ rfl ud30 rfl rfl rfl rfl ?_ | (refine kL 3306 rfl ?_; refine A_cl rfl rfl Try.func103 rfl (cC) ?_) | refine AL.nil ?_)) | with_reducible refine AW.at_region _ ?_ | (with_reducible (first | refine wk0 ?_ | refine wk2 ?_ | refine wk9 ?_ | refine wkb ?_)))
            all_goals first | (exfalso; omega) | (exact Fin.q Try.results78 (.cons (.tmp rfl) .nil) [])
        · subst e1 e2
          cases x1
          all_goals
            refine Cd.enter' Try.func78 rfl Try.ntmps78 rfl ?_
            repeat' (first | ((with_reducible refine kAL ?_); (first | refine A_box rfl rfl 43 _ rfl rfl (.push qL qN) ?_ | refine A_as rfl rfl rfl rfl ?_ | (refine kL 1380 rfl ?_; (first | refine A_field rfl rfl 43 _ 0 rfl ud43 rfl inf4 (by decide) 0 rfl rfl ?_ | refine A_field rfl rfl 43 _ 1 rfl ud43 rfl inf3 (by decide) 1 rfl rfl ?_ | refine A_field rfl rfl 43 _ 2 rfl ud43 rfl inf3 (by decide) 2 rfl rfl ?_)) | refine A_load rfl rfl 4 _ rfl ud4 rfl rfl rfl rfl ?_ | refine A_beq rfl rfl 4 4 _ _ rfl ud4 rfl rfl ?_ | refine A_mt rfl rfl rfl rfl ?_ | refine A_load rfl rfl 3 _ rfl ud3 rfl rfl rfl rfl ?_ | (refine kL 105 rfl ?_; (first | refine A_cmp (d := 15) rfl rfl (c := true) .eql 3 3 _ _ rfl rfl rfl (by exact congrArg some (decide_eq_true (by (try (dsimp only; fail_if_success done)); omega))) ?_ | refine A_cmp (d := 22) rfl rfl (c := false) .eql 3 3 _ _ rfl rfl rfl (by exact congrArg some (decide_eq_false (by (try (dsimp only; fail_if_success done)); omega))) ?_)) | refine A_pick rfl rfl _ _ _ rfl rfl rfl rfl rfl ?_ | refine AL.nil ?_ | refine AL.skip rfl rfl ?_)) | with_reducible refine AW.at_region _ ?_ | (with_reducible (first | refine wk0 ?_ | refine wk2 ?_ | refine wk9 ?_ | refine wkb ?_)))
            all_goals first | (exfalso; omega) | (exact Fin.q Try.results78 (.cons (.tmp rfl) .nil) [])
      · subst e1
        cases x1
        all_goals
          refine Cd.enter' Try.func78 rfl Try.ntmps78 rfl ?_
          repeat' (first | ((with_reducible refine kAL ?_); (first | refine A_box rfl rfl 43 _ rfl rfl (.push qL qN) ?_ | refine A_as rfl rfl rfl rfl ?_ | (refine kL 1380 rfl ?_; (first | refine A_field rfl rfl 43 _ 0 rfl ud43 rfl inf4 (by decide) 0 rfl rfl ?_ | refine A_field rfl rfl 43 _ 1 rfl ud43 rfl inf3 (by decide) 1 rfl rfl ?_)) | refine A_load rfl rfl 4 _ rfl ud4 rfl rfl rfl rfl ?_ | refine A_beq rfl rfl 4 4 _ _ rfl ud4 rfl rfl ?_ | refine A_mt rfl rfl rfl rfl ?_ | refine A_load rfl rfl 3 _ rfl ud3 rfl rfl rfl rfl ?_ | refine A_cmp (d := 15) rfl rfl (c := false) .eql 3 3 _ _ rfl rfl rfl (by exact congrArg some (decide_eq_false (by (try (dsimp only; fail_if_success done)); omega))) ?_ | refine A_pick rfl rfl _ _ _ rfl rfl rfl rfl rfl ?_ | refine AL.nil ?_ | refine AL.skip rfl rfl ?_)) | with_reducible refine AW.at_region _ ?_ | (with_reducible (first | refine wk0 ?_ | refine wk2 ?_ | refine wk9 ?_ | refine wkb ?_)))
          all_goals first | (exfalso; omega) | (exact Fin.q Try.results78 (.cons (.tmp rfl) .nil) [])
    · cases x1 <;> cases y1
      all_goals first | (exact absurd rfl e1) | skip
      all_goals
        refine Cd.enter' Try.func78 rfl Try.ntmps78 rfl ?_
        repeat' (first | ((with_reducible refine kAL ?_); (first | refine A_box rfl rfl 43 _ rfl rfl (.push qL qN) ?_ | refine A_as rfl rfl rfl rfl ?_ | refine A_field rfl rfl 43 _ 0 rfl ud43 rfl inf4 (by decide) 0 rfl rfl ?_ | refine A_load rfl rfl 4 _ rfl ud4 rfl rfl rfl rfl ?_ | refine A_beq rfl rfl 4 4 _ _ rfl ud4 rfl rfl ?_ | refine A_mt rfl rfl rfl rfl ?_ | refine A_pick rfl rfl _ _ _ rfl rfl rfl rfl rfl ?_ | refine AL.nil ?_ | refine AL.skip rfl rfl ?_)) | with_reducible refine AW.at_region _ ?_ | (with_reducible (first | refine wk0 ?_ | refine wk2 ?_ | refine wk9 ?_ | refine wkb ?_)))
        all_goals first | (exfalso; omega) | (exact Fin.q Try.results78 (.cons (.tmp rfl) .nil) [])
set_option maxHeartbeats 8000000 in
theorem eqFW_c (f : FuncId) (a b : List DWait) (ha : okW a) (hg : ∀ x y : DWait, x.cases.length ≤ 1152921504606846976 → CV Try.prog (.fn (.func f) [] []) [aW x, aW y] (bo (decide (x = y))) []) (hup : upB (keepG 0) (.fn (.func f) [] []) = .fn (.func f) [] []) :
    Cd Try.prog 77 [.ln (a.map tWt), .ln (b.map tWt), .fn (.func f) [] []] (bo (decide (a = b))) [] := by
  have h0 := ha.1
  have h1 : (a.map tWt).length = a.length := List.length_map _
  have h2 : (b.map tWt).length = b.length := List.length_map _
  first | refine Cd.enter' Try.func77 rfl Try.ntmps77 rfl ?_ | refine Cio.enter' Try.func77 rfl Try.ntmps77 rfl qM ?_ | refine C.enter' Try.func77 rfl Try.ntmps77 rfl qM ?_
  repeat' (first | ((with_reducible refine kAL ?_); (first | refine A_as rfl rfl rfl rfl ?_ | (refine kL 0 rfl ?_; (first | refine A_mt rfl rfl rfl rfl ?_ | refine A_move rfl rfl _ (.inl rfl) (y := .ln _) rfl ?_)) | refine A_len rfl rfl 26 _ rfl ud26 rfl ?_ | refine A_cmp (d := 14) rfl rfl .neq 3 3 _ _ rfl rfl rfl rfl ?_ | refine AL.nil ?_)) | with_reducible refine AW.at_region _ ?_ | (with_reducible (first | refine wk0 ?_ | refine wk1 ?_ | refine wk2 ?_ | refine wk3 ?_ | refine wk9 ?_ | refine wkb ?_ | refine wkd ?_)) | refine kcp rfl (fun hc => ?_) (fun hc => ?_))
  · refine Fin.q Try.results77 (.cons (.tmp rfl) .nil) [] (hr := (.t ?_))
    have : a ≠ b := by rintro rfl; exact hc rfl
    simp [this]
  · refine AW.loopP (fun (i : Nat) => ∀ j, j < i → a.getD j default = b.getD j default) (fun (i : Nat) => (pu (pu (pu (pu (pu (pu (fun _ => .any) 0 (.ln (a.map tWt))) 1 (.ln (b.map tWt))) 2 (.fn (.func f) [] [])) 15 (.ln (a.map tWt))) 16 (i64 (a.map tWt).length)) 17 (i64 i))) (fun (i : Nat) => []) (fun (i : Nat) => a.length + 1 - i) (0) ?_ ?_ ?_
    · intro j hj; omega
    · exact Wk.cq 0
    · intro i hi
      by_cases hq : i < a.length
      · obtain ⟨x, hx⟩ : ∃ x, a[i]? = some x := ⟨_, List.getElem?_eq_getElem hq⟩
        obtain ⟨y, hy⟩ : ∃ y, b[i]? = some y := ⟨_, List.getElem?_eq_getElem (by omega)⟩
        have cS := hg x y (by have := ha.at hx; omega)
        by_cases e : x = y
        · rw [decide_eq_true e] at cS
          have hn : ∀ j, j < i + 1 → a.getD j default = b.getD j default := fun j hj => by
            by_cases ej : j = i
            · subst ej; rw [getD_of hx, getD_of hy]; exact e
            · exact hi j (by omega)
          obtain ⟨x1, x2, x3, x4⟩ := x
          obtain ⟨y1, y2, y3, y4⟩ := y
          repeat' (first | ((with_reducible refine kAL ?_); (first | refine A_as rfl rfl rfl rfl ?_ | (refine kL 0 rfl ?_; (first | refine A_mt rfl rfl rfl rfl ?_ | refine A_move rfl rfl _ (.inl rfl) (y := .ln _) rfl ?_ | refine A_move rfl rfl _ (.inl rfl) (y := .fn _ _ _) rfl ?_)) | (refine kL 105 rfl ?_; (first | refine A_cmp (d := 18) rfl rfl (c := true) .lss 3 3 _ _ rfl rfl rfl (by exact congrArg some (decide_eq_true (by (try (dsimp only; fail_if_success done)); omega))) ?_ | refine A_add rfl rfl 3 3 _ _ rfl rfl rfl (by exact wi) ?_)) | (refine kL 838 rfl ?_; refine A_idx rfl rfl 26 _ _ rfl ud26 inf43 (by decide) (by exact .inl rfl) rfl (by omega) _ (by with_reducible exact Int.toNat_natCast _) (by exact map_get (by assumption)) rfl (cs' := [_, _, _, _]) rfl ?_) | (refine kL 1378 rfl ?_; (first | refine A_load_agg rfl rfl 43 _ rfl ud43 rfl inf43 rfl rfl (us' := [_, _, _, _]) rfl rfl ?_ | refine A_load_lp_agg rfl rfl 43 _ rfl ud43 rfl inf43 rfl (us' := [_, _, _, _]) rfl rfl ?_)) | refine A_alloc rfl rfl 43 rfl inf43 (cs := [.t (.v (.bool false)), .t (.v (.int .i64 0)), .t (.v (.int .i64 0)), AV.nl]) rfl (.push qL qN) ?_ | refine A_store rfl rfl 43 _ _ rfl inf43 rfl rfl rfl rfl (Nat.le_of_ble_eq_true rfl) qN qN ?_ | (refine kL 11 rfl ?_; refine A_callv rfl rfl rfl rfl (cS) (by ((repeat (first | exact .nil | refine .cons ?_ ?_ | exact .t _ | refine .aggL ?_ | exact .lst _)); (first | done | fail))) qL qU qU qN ?_) | refine A_not rfl rfl _ _ rfl rfl ?_ | refine AL.nil ?_)) | with_reducible refine AW.at_region _ ?_ | (with_reducible (first | refine wk0 ?_ | refine wk1 ?_ | refine wk2 ?_ | refine wk5 ?_ | refine wkd ?_)) | refine kct rfl ?_ | refine kcf rfl ?_)
          all_goals first | (exfalso; omega) | skip
          refine ⟨i + 1, hn, by omega, ?_⟩
          exact Wk.cq 0
        · rw [decide_eq_false e] at cS
          rw [show decide (a = b) = false from decide_eq_false (by rintro rfl; rw [hx] at hy; cases hy; exact e rfl)]
          obtain ⟨x1, x2, x3, x4⟩ := x
          obtain ⟨y1, y2, y3, y4⟩ := y
          repeat' (first | ((with_reducible refine kAL ?_); (first | refine A_as rfl rfl rfl rfl ?_ | (refine kL 0 rfl ?_; (first | refine A_mt rfl rfl rfl rfl ?_ | refine A_move rfl rfl _ (.inl rfl) (y := .ln _) rfl ?_ | refine A_move rfl rfl _ (.inl rfl) (y := .fn _ _ _) rfl ?_)) | refine A_cmp (d := 18) rfl rfl (c := true) .lss 3 3 _ _ rfl rfl rfl (by exact congrArg some (decide_eq_true (by (try (dsimp only; fail_if_success done)); omega))) ?_ | (refine kL 838 rfl ?_; refine A_idx rfl rfl 26 _ _ rfl ud26 inf43 (by decide) (by exact .inl rfl) rfl (by omega) _ (by with_reducible exact Int.toNat_natCast _) (by exact map_get (by assumption)) rfl (cs' := [_, _, _, _]) rfl ?_) | (refine kL 1378 rfl ?_; (first | refine A_load_agg rfl rfl 43 _ rfl ud43 rfl inf43 rfl rfl (us' := [_, _, _, _]) rfl rfl ?_ | refine A_load_lp_agg rfl rfl 43 _ rfl ud43 rfl inf43 rfl (us' := [_, _, _, _]) rfl rfl ?_)) | refine A_alloc rfl rfl 43 rfl inf43 (cs := [.t (.v (.bool false)), .t (.v (.int .i64 0)), .t (.v (.int .i64 0)), AV.nl]) rfl (.push qL qN) ?_ | refine A_store rfl rfl 43 _ _ rfl inf43 rfl rfl rfl rfl (Nat.le_of_ble_eq_true rfl) qN qN ?_ | (refine kL 11 rfl ?_; refine A_callv rfl rfl rfl rfl (cS) (by ((repeat (first | exact .nil | refine .cons ?_ ?_ | exact .t _ | refine .aggL ?_ | exact .lst _)); (first | done | fail))) qL qU qU qN ?_) | refine A_not rfl rfl _ _ rfl rfl ?_ | refine AL.nil ?_)) | with_reducible refine AW.at_region _ ?_ | (with_reducible (first | refine wk0 ?_ | refine wk1 ?_ | refine wk2 ?_ | refine wk3 ?_ | refine wk6 ?_ | refine wk9 ?_ | refine wkb ?_ | refine wkd ?_)) | refine kct rfl ?_)
          all_goals first | (exfalso; omega) | (exact Fin.q Try.results77 (.cons (.tmp rfl) .nil) [])
      · rw [show decide (a = b) = true from decide_eq_true (all_eq (z := default) (by omega) fun j hj => hi j (by omega))]
        repeat' (first | ((with_reducible refine kAL ?_); (first | refine A_as rfl rfl rfl rfl ?_ | refine A_cmp (d := 18) rfl rfl (c := false) .lss 3 3 _ _ rfl rfl rfl (by exact congrArg some (decide_eq_false (by (try (dsimp only; fail_if_success done)); omega))) ?_ | refine AL.nil ?_)) | with_reducible refine AW.at_region _ ?_ | (with_reducible (first | refine wk0 ?_ | refine wk2 ?_ | refine wk4 ?_ | refine wk7 ?_ | refine wk9 ?_ | refine wkb ?_ | refine wkc ?_)) | refine kcf rfl ?_)
        all_goals first | (exfalso; omega) | (exact Fin.q Try.results77 (.cons (.tmp rfl) .nil) [])
theorem wsame_c (a b : List DWait) (ha : okW a) : Cd Try.prog 47 [.ln (a.map tWt), .ln (b.map tWt)] (bo (decide (a = b))) [] := by
  have cE := eqFW_c 78 a b ha (fun x y hx => ⟨_, _, [], [], rfl, Try.func78, by kernel_rfl, by kernel_rfl, fun _ => .nil, fun _ => .nil, wsame1_c x y hx⟩) rfl
  first | refine Cd.enter' Try.func47 rfl Try.ntmps47 rfl ?_ | refine Cio.enter' Try.func47 rfl Try.ntmps47 rfl qM ?_ | refine C.enter' Try.func47 rfl Try.ntmps47 rfl qM ?_
  repeat' (first | ((with_reducible refine kAL ?_); (first | refine A_as rfl rfl rfl rfl ?_ | refine A_move rfl rfl _ (.inl rfl) (y := .ln _) rfl ?_ | (refine kL 2474 rfl ?_; refine A_cl rfl rfl Try.func77 rfl (cE) ?_) | refine AL.nil ?_)) | with_reducible refine AW.at_region _ ?_ | (with_reducible (first | refine wk0 ?_ | refine wk2 ?_ | refine wk9 ?_ | refine wkb ?_)))
  all_goals first | (exfalso; omega) | (exact Fin.q Try.results47 (.cons (.tmp rfl) .nil) [])
end Go.Proofs.Ytphcebioiipdpaa


/- Whether halls are the same: slices.Equal of ints and results, chans.Same, hall.Same. -/
namespace Go.Proofs.Ytphcebioiipdpaa
set_option linter.unusedVariables false
set_option linter.unusedSimpArgs false
set_option linter.unnecessarySimpa false
open Go.RowKit
set_option maxHeartbeats 32000000
attribute [local irreducible] AL AW RG Fin C Cd Cio thenQ blockQ retQ
set_option maxRecDepth 100000
theorem Rst_ext {a b : Rst} (h : a.seq = b.seq ∧ a.cas = b.cas ∧ a.code = b.code ∧ a.value = b.value) : a = b := by
  obtain ⟨a1, a2, a3, a4⟩ := a; obtain ⟨b1, b2, b3, b4⟩ := b; obtain ⟨h1, h2, h3, h4⟩ := h; dsimp only at h1 h2 h3 h4; rw [h1, h2, h3, h4]
theorem eqI_c (a b : List Int) (ha : a.length ≤ 1152921504606846976) : Cd Try.prog 76 [.ln (a.map tI), .ln (b.map tI)] (bo (decide (a = b))) [] := by
  have h1 : (a.map tI).length = a.length := List.length_map _
  have h2 : (b.map tI).length = b.length := List.length_map _
  refine Cd.enter' Try.func76 rfl Try.ntmps76 rfl ?_
  repeat' (first | ((with_reducible refine kAL ?_); (first | refine A_as rfl rfl rfl rfl ?_ | (refine kL 0 rfl ?_; (first | refine A_mt rfl rfl rfl rfl ?_ | refine A_move rfl rfl _ (.inl rfl) (y := .ln _) rfl ?_)) | refine A_len rfl rfl 22 _ rfl ud22 rfl ?_ | refine A_cmp (d := 10) rfl rfl .neq 3 3 _ _ rfl rfl rfl rfl ?_ | refine AL.nil ?_)) | (with_reducible (first | refine wk0 ?_ | refine wk1 ?_ | refine wk2 ?_ | refine wk3 ?_ | refine wk9 ?_ | refine wkb ?_ | refine wkd ?_)) | refine kcp rfl (fun hc => ?_) (fun hc => ?_) | with_reducible refine AW.at_region _ ?_)
  · refine Fin.q Try.results76 (.cons (.tmp rfl) .nil) [] (hr := (.t ?_))
    have : a ≠ b := by rintro rfl; exact hc rfl
    simp [this]
  · refine AW.loopP (fun (i : Nat) => ∀ j, j < i → a.getD j 0 = b.getD j 0) (fun (i : Nat) => (pu (pu (pu (pu (pu (fun _ => .any) 0 (.ln (a.map tI))) 1 (.ln (b.map tI))) 4 (bo false)) 12 (i64 (a.map tI).length)) 13 (i64 i))) (fun (i : Nat) => []) (fun (i : Nat) => a.length + 1 - i) (0) ?_ ?_ ?_
    · intro j hj; omega
    · exact Wk.cq 0
    · intro i hi
      repeat' (first | ((with_reducible refine kAL ?_); (first | refine A_as rfl rfl rfl rfl ?_ | refine A_mt rfl rfl rfl rfl ?_ | (refine kL 105 rfl ?_; (first | refine A_add rfl rfl 3 3 _ _ rfl rfl rfl (by first | exact wi | rfl) ?_ | refine A_cmp (d := 14) rfl rfl .lss 3 3 _ _ rfl rfl rfl rfl ?_)) | refine AL.nil ?_)) | ((with_reducible refine kRG ?_); (first | (refine kR 0 rfl ?_; (first | refine R_mt rfl rfl rfl rfl ?_ | refine R_move rfl rfl _ (.inl rfl) (y := .ln _) rfl ?_)) | (refine kR 710 rfl ?_; refine R_idx rfl rfl 22 _ _ rfl ud22 inf3 (by decide) (by exact .inl rfl) rfl (by omega) _ (by with_reducible exact Int.toNat_natCast _) (by exact map_get (get_D (x := (0 : Int)) (by omega))) rfl (cs' := [_]) rfl ?_) | refine R_load_lp rfl rfl 3 _ rfl ud3 rfl rfl rfl ?_ | refine R_cmp (d := 24) rfl rfl .neq 3 3 _ _ rfl rfl rfl rfl ?_ | refine RG.nil ⟨by kernel_rfl, ?_⟩)) | (with_reducible (first | refine wk0 ?_ | refine wk1 ?_ | refine wk2 ?_ | refine wk3 ?_ | refine wk4 ?_ | refine wk5 ?_ | refine wk6 ?_ | refine wk7 ?_ | refine wk9 ?_ | refine wkb ?_ | refine wkc ?_ | refine wkd ?_)) | refine kcp rfl (fun hc => ?_) (fun hc => ?_) | with_reducible refine AW.at_region _ ?_ | refine AW.at_draw 6 mixed 0 [[], [], [0, 1], [0, 1, 2], [], [], [4, 5], [4, 5, 6], [0, 1, 2, 3, 4, 5, 6, 7]] qR ?_)
      · refine Fin.q Try.results76 (.cons (.tmp rfl) .nil) [] (hr := (.t ?_))
        have : a ≠ b := by
          rintro rfl; exact absurd hc (by simp)
        simp [this]
      · refine ⟨i + 1, fun j hj => ?_, by omega, ?_⟩
        · by_cases e : j = i
          · subst e; exact (by simpa using hc)
          · exact hi j (by omega)
        · exact Wk.cq 0
      · refine Fin.q Try.results76 (.cons (.tmp rfl) .nil) [] (hr := (.t ?_))
        have : a = b := all_eq (z := (0 : Int)) (by omega) fun j hj => hi j (by omega)
        simp [this]
theorem eqRs_c (a b : List Rst) (ha : a.length ≤ 1152921504606846976) : Cd Try.prog 48 [.ln (a.map tR), .ln (b.map tR)] (bo (decide (a = b))) [] := by
  have h1 : (a.map tR).length = a.length := List.length_map _
  have h2 : (b.map tR).length = b.length := List.length_map _
  refine Cd.enter' Try.func48 rfl Try.ntmps48 rfl ?_
  repeat' (first | ((with_reducible refine kAL ?_); (first | refine A_as rfl rfl rfl rfl ?_ | (refine kL 0 rfl ?_; (first | refine A_mt rfl rfl rfl rfl ?_ | refine A_move rfl rfl _ (.inl rfl) (y := .ln _) rfl ?_)) | refine A_len rfl rfl 27 _ rfl ud27 rfl ?_ | refine A_cmp (d := 10) rfl rfl .neq 3 3 _ _ rfl rfl rfl rfl ?_ | refine AL.nil ?_)) | (with_reducible (first | refine wk0 ?_ | refine wk1 ?_ | refine wk2 ?_ | refine wk3 ?_ | refine wk9 ?_ | refine wkb ?_ | refine wkd ?_)) | refine kcp rfl (fun hc => ?_) (fun hc => ?_) | with_reducible refine AW.at_region _ ?_)
  · refine Fin.q Try.results48 (.cons (.tmp rfl) .nil) [] (hr := (.t ?_))
    have : a ≠ b := by rintro rfl; exact hc rfl
    simp [this]
  · refine AW.loopP (fun (i : Nat) => ∀ j, j < i → a.getD j default = b.getD j default) (fun (i : Nat) => (pu (pu (pu (pu (pu (fun _ => .any) 0 (.ln (a.map tR))) 1 (.ln (b.map tR))) 4 (bo false)) 12 (i64 (a.map tR).length)) 13 (i64 i))) (fun (i : Nat) => []) (fun (i : Nat) => a.length + 1 - i) (0) ?_ ?_ ?_
    · intro j hj; omega
    · exact Wk.cq 0
    · intro i hi
      repeat' (first | ((with_reducible refine kAL ?_); (first | refine A_as rfl rfl rfl rfl ?_ | refine A_mt rfl rfl rfl rfl ?_ | (refine kL 105 rfl ?_; (first | refine A_add rfl rfl 3 3 _ _ rfl rfl rfl (by first | exact wi | rfl) ?_ | refine A_cmp (d := 14) rfl rfl .lss 3 3 _ _ rfl rfl rfl rfl ?_)) | refine AL.nil ?_)) | ((with_reducible refine kRG ?_); (first | (refine kR 0 rfl ?_; (first | refine R_mt rfl rfl rfl rfl ?_ | refine R_move rfl rfl _ (.inl rfl) (y := .ln _) rfl ?_)) | (refine kR 870 rfl ?_; refine R_idx rfl rfl 27 _ _ rfl ud27 inf50 (by decide) (by exact .inl rfl) rfl (by omega) _ (by with_reducible exact Int.toNat_natCast _) (by exact map_get (get_D (x := (default : Rst)) (by omega))) rfl (cs' := [_, _, _, _]) rfl ?_) | refine R_load_lp_agg rfl rfl 50 _ rfl ud50 rfl inf50 rfl (us' := [_, _, _, _]) rfl rfl ?_ | (refine kR 1609 rfl ?_; (refine R_nes rfl rfl 50 50 _ _ rfl rfl rfl (by kernel_rfl) (fun w => eqs50 9998 _ _ _ _ _ _ _ _ w) (by rfl) ?_)) | refine RG.nil ⟨by kernel_rfl, ?_⟩)) | (with_reducible (first | refine wk0 ?_ | refine wk1 ?_ | refine wk2 ?_ | refine wk3 ?_ | refine wk4 ?_ | refine wk5 ?_ | refine wk6 ?_ | refine wk7 ?_ | refine wk9 ?_ | refine wkb ?_ | refine wkc ?_ | refine wkd ?_)) | refine kcp rfl (fun hc => ?_) (fun hc => ?_) | refine kcn rfl (fun hc => ?_) (fun hc => ?_) | with_reducible refine AW.at_region _ ?_ | refine AW.at_draw 6 mixed 0 [[], [], [0, 1], [0, 1, 2], [], [], [4, 5], [4, 5, 6], [0, 1, 2, 3, 4, 5, 6, 7]] qR ?_)
      · refine Fin.q Try.results48 (.cons (.tmp rfl) .nil) [] (hr := (.t ?_))
        have : a ≠ b := by
          rintro rfl; exact absurd hc (by simp)
        simp [this]
      · refine ⟨i + 1, fun j hj => ?_, by omega, ?_⟩
        · by_cases e : j = i
          · subst e; exact Rst_ext (by simpa using hc)
          · exact hi j (by omega)
        · exact Wk.cq 0
      · refine Fin.q Try.results48 (.cons (.tmp rfl) .nil) [] (hr := (.t ?_))
        have : a = b := all_eq (z := default) (by omega) fun j hj => hi j (by omega)
        simp [this]
set_option maxHeartbeats 8000000 in
theorem csame1_c (x y : DChan) (hx : x.buf.length ≤ 1152921504606846976) : Cd Try.prog 46 [aCh x, aCh y] (bo (decide (x = y))) [] := by
  have cC := eqI_c x.buf y.buf hx
  obtain ⟨x1, x2, x3, x4, x5⟩ := x
  obtain ⟨y1, y2, y3, y4, y5⟩ := y
  dsimp only at cC
  by_cases e : (⟨x1, x2, x3, x4, x5⟩ : DChan) = ⟨y1, y2, y3, y4, y5⟩
  · cases e
    rw [decide_eq_true rfl] at cC ⊢
    cases x3 <;> cases x4
    all_goals
      refine Cd.enter' Try.func46 rfl Try.ntmps46 rfl ?_
      repeat' (first | ((with_reducible refine kAL ?_); (first | refine A_box rfl rfl 66 _ rfl rfl (.push qL qN) ?_ | refine A_as rfl rfl rfl rfl ?_ | (refine kL 2116 rfl ?_; (first | refine A_field rfl rfl 66 _ 0 rfl ud66 rfl inf3 (by decide) 0 rfl rfl ?_ | refine A_field rfl rfl 66 _ 1 rfl ud66 rfl inf3 (by decide) 1 rfl rfl ?_ | refine A_field rfl rfl 66 _ 2 rfl ud66 rfl inf4 (by decide) 2 rfl rfl ?_ | refine A_field rfl rfl 66 _ 3 rfl ud66 rfl inf4 (by decide) 3 rfl rfl ?_ | refine A_field rfl rfl 66 _ 4 rfl ud66 rfl inf22 (by decide) 4 rfl rfl ?_)) | refine A_load rfl rfl 3 _ rfl ud3 rfl rfl rfl rfl ?_ | (refine kL 105 rfl ?_; (first | refine A_cmp (d := 9) rfl rfl (c := true) .eql 3 3 _ _ rfl rfl rfl (by exact congrArg some (decide_eq_true (by (try (dsimp only; fail_if_success done)); omega))) ?_ | refine A_cmp (d := 15) rfl rfl (c := true) .eql 3 3 _ _ rfl rfl rfl (by exact congrArg some (decide_eq_true (by (try (dsimp only; fail_if_success done)); omega))) ?_)) | refine A_mt rfl rfl rfl rfl ?_ | (refine kL 19 rfl ?_; refine A_pkt rfl rfl _ _ _ rfl rfl rfl ?_) | refine A_load rfl rfl 4 _ rfl ud4 rfl rfl rfl rfl ?_ | refine A_beq rfl rfl 4 4 _ _ rfl ud4 rfl rfl ?_ | refine A_load rfl rfl 22 _ rfl ud22 rfl rfl rfl rfl ?_ | (refine kL 2442 rfl ?_; refine A_cl rfl rfl Try.func76 rfl (cC) ?_) | refine AL.nil ?_)) | with_reducible refine AW.at_region _ ?_ | (with_reducible (first | refine wk0 ?_ | refine wk2 ?_ | refine wk9 ?_ | refine wkb ?_)))
      all_goals first | (exfalso; omega) | (exact Fin.q Try.results46 (.cons (.tmp rfl) .nil) [])
  · rw [decide_eq_false e]
    by_cases e1 : x1 = y1
    · by_cases e2 : x2 = y2
      · by_cases e3 : x3 = y3
        · by_cases e4 : x4 = y4
          · have e5 : x5 ≠ y5 := by rintro rfl; subst e1 e2 e3 e4; exact e rfl
            rw [decide_eq_false e5] at cC
            subst e1 e2 e3 e4
            cases x3 <;> cases x4
            all_goals
              refine Cd.enter' Try.func46 rfl Try.ntmps46 rfl ?_
              repeat' (first | ((with_reducible refine kAL ?_); (first | refine A_box rfl rfl 66 _ rfl rfl (.push qL qN) ?_ | refine A_as rfl rfl rfl rfl ?_ | (refine kL 2116 rfl ?_; (first | refine A_field rfl rfl 66 _ 0 rfl ud66 rfl inf3 (by decide) 0 rfl rfl ?_ | refine A_field rfl rfl 66 _ 1 rfl ud66 rfl inf3 (by decide) 1 rfl rfl ?_ | refine A_field rfl rfl 66 _ 2 rfl ud66 rfl inf4 (by decide) 2 rfl rfl ?_ | refine A_field rfl rfl 66 _ 3 rfl ud66 rfl inf4 (by decide) 3 rfl rfl ?_ | refine A_field rfl rfl 66 _ 4 rfl ud66 rfl inf22 (by decide) 4 rfl rfl ?_)) | refine A_load rfl rfl 3 _ rfl ud3 rfl rfl rfl rfl ?_ | (refine kL 105 rfl ?_; (first | refine A_cmp (d := 9) rfl rfl (c := true) .eql 3 3 _ _ rfl rfl rfl (by exact congrArg some (decide_eq_true (by (try (dsimp only; fail_if_success done)); omega))) ?_ | refine A_cmp (d := 15) rfl rfl (c := true) .eql 3 3 _ _ rfl rfl rfl (by exact congrArg some (decide_eq_true (by (try (dsimp only; fail_if_success done)); omega))) ?_)) | refine A_mt rfl rfl rfl rfl ?_ | (refine kL 19 rfl ?_; refine A_pkt rfl rfl _ _ _ rfl rfl rfl ?_) | refine A_load rfl rfl 4 _ rfl ud4 rfl rfl rfl rfl ?_ | refine A_beq rfl rfl 4 4 _ _ rfl ud4 rfl rfl ?_ | refine A_load rfl rfl 22 _ rfl ud22 rfl rfl rfl rfl ?_ | (refine kL 2442 rfl ?_; refine A_cl rfl rfl Try.func76 rfl (cC) ?_) | refine AL.nil ?_)) | with_reducible refine AW.at_region _ ?_ | (with_reducible (first | refine wk0 ?_ | refine wk2 ?_ | refine wk9 ?_ | refine wkb ?_)))
              all_goals first | (exfalso; omega) | (exact Fin.q Try.results46 (.cons (.tmp rfl) .nil) [])
          · subst e1 e2 e3
            cases x3 <;> cases x4 <;> cases y4
            all_goals first | (exact absurd rfl e4) | skip
            all_goals
              refine Cd.enter' Try.func46 rfl Try.ntmps46 rfl ?_
              repeat' (first | ((with_reducible refine kAL ?_); (first | refine A_box rfl rfl 66 _ rfl rfl (.push qL qN) ?_ | refine A_as rfl rfl rfl rfl ?_ | (refine kL 2116 rfl ?_; (first | refine A_field rfl rfl 66 _ 0 rfl ud66 rfl inf3 (by decide) 0 rfl rfl ?_ | refine A_field rfl rfl 66 _ 1 rfl ud66 rfl inf3 (by decide) 1 rfl rfl ?_ | refine A_field rfl rfl 66 _ 2 rfl ud66 rfl inf4 (by decide) 2 rfl rfl ?_ | refine A_field rfl rfl 66 _ 3 rfl ud66 rfl inf4 (by decide) 3 rfl rfl ?_)) | refine A_load rfl rfl 3 _ rfl ud3 rfl rfl rfl rfl ?_ | (refine kL 105 rfl ?_; (first | refine A_cmp (d := 9) rfl rfl (c := true) .eql 3 3 _ _ rfl rfl rfl (by exact congrArg some (decide_eq_true (by (try (dsimp only; fail_if_success done)); omega))) ?_ | refine A_cmp (d := 15) rfl rfl (c := true) .eql 3 3 _ _ rfl rfl rfl (by exact congrArg some (decide_eq_true (by (try (dsimp only; fail_if_success done)); omega))) ?_)) | refine A_mt rfl rfl rfl rfl ?_ | (refine kL 19 rfl ?_; (first | refine A_pkt rfl rfl _ _ _ rfl rfl rfl ?_ | refine A_pkf rfl rfl _ _ _ rfl rfl rfl ?_)) | refine A_load rfl rfl 4 _ rfl ud4 rfl rfl rfl rfl ?_ | refine A_beq rfl rfl 4 4 _ _ rfl ud4 rfl rfl ?_ | refine AL.nil ?_ | refine AL.skip rfl rfl ?_)) | with_reducible refine AW.at_region _ ?_ | (with_reducible (first | refine wk0 ?_ | refine wk2 ?_ | refine wk9 ?_ | refine wkb ?_)))
              all_goals first | (exfalso; omega) | (exact Fin.q Try.results46 (.cons (.tmp rfl) .nil) [])
        · subst e1 e2
          cases x3 <;> cases y3
          all_goals first | (exact absurd rfl e3) | skip
          all_goals
            refine Cd.enter' Try.func46 rfl Try.ntmps46 rfl ?_
            repeat' (first | ((with_reducible refine kAL ?_); (first | refine A_box rfl rfl 66 _ rfl rfl (.push qL qN) ?_ | refine A_as rfl rfl rfl rfl ?_ | (refine kL 2116 rfl ?_; (first | refine A_field rfl rfl 66 _ 0 rfl ud66 rfl inf3 (by decide) 0 rfl rfl ?_ | refine A_field rfl rfl 66 _ 1 rfl ud66 rfl inf3 (by decide) 1 rfl rfl ?_ | refine A_field rfl rfl 66 _ 2 rfl ud66 rfl inf4 (by decide) 2 rfl rfl ?_)) | refine A_load rfl rfl 3 _ rfl ud3 rfl rfl rfl rfl ?_ | (refine kL 105 rfl ?_; (first | refine A_cmp (d := 9) rfl rfl (c := true) .eql 3 3 _ _ rfl rfl rfl (by exact congrArg some (decide_eq_true (by (try (dsimp only; fail_if_success done)); omega))) ?_ | refine A_cmp (d := 15) rfl rfl (c := true) .eql 3 3 _ _ rfl rfl rfl (by exact congrArg some (decide_eq_true (by (try (dsimp only; fail_if_success done)); omega))) ?_)) | refine A_mt rfl rfl rfl rfl ?_ | (refine kL 19 rfl ?_; (first | refine A_pkt rfl rfl _ _ _ rfl rfl rfl ?_ | refine A_pkf rfl rfl _ _ _ rfl rfl rfl ?_)) | refine A_load rfl rfl 4 _ rfl ud4 rfl rfl rfl rfl ?_ | refine A_beq rfl rfl 4 4 _ _ rfl ud4 rfl rfl ?_ | refine AL.nil ?_ | refine AL.skip rfl rfl ?_)) | with_reducible refine AW.at_region _ ?_ | (with_reducible (first | refine wk0 ?_ | refine wk2 ?_ | refine wk9 ?_ | refine wkb ?_)))
            all_goals first | (exfalso; omega) | (exact Fin.q Try.results46 (.cons (.tmp rfl) .nil) [])
      · subst e1
        refine Cd.enter' Try.func46 rfl Try.ntmps46 rfl ?_
        repeat' (first | ((with_reducible refine kAL ?_); (first | refine A_box rfl rfl 66 _ rfl rfl (.push qL qN) ?_ | refine A_as rfl rfl rfl rfl ?_ | (refine kL 2116 rfl ?_; (first | refine A_field rfl rfl 66 _ 0 rfl ud66 rfl inf3 (by decide) 0 rfl rfl ?_ | refine A_field rfl rfl 66 _ 1 rfl ud66 rfl inf3 (by decide) 1 rfl rfl ?_)) | refine A_load rfl rfl 3 _ rfl ud3 rfl rfl rfl rfl ?_ | (refine kL 105 rfl ?_; (first | refine A_cmp (d := 9) rfl rfl (c := true) .eql 3 3 _ _ rfl rfl rfl (by exact congrArg some (decide_eq_true (by (try (dsimp only; fail_if_success done)); omega))) ?_ | refine A_cmp (d := 15) rfl rfl (c := false) .eql 3 3 _ _ rfl rfl rfl (by exact congrArg some (decide_eq_false (by (try (dsimp only; fail_if_success done)); omega))) ?_)) | refine A_mt rfl rfl rfl rfl ?_ | (refine kL 19 rfl ?_; (first | refine A_pkt rfl rfl _ _ _ rfl rfl rfl ?_ | refine A_pkf rfl rfl _ _ _ rfl rfl rfl ?_)) | refine AL.nil ?_ | refine AL.skip rfl rfl ?_)) | with_reducible refine AW.at_region _ ?_ | (with_reducible (first | refine wk0 ?_ | refine wk2 ?_ | refine wk9 ?_ | refine wkb ?_)))
        all_goals first | (exfalso; omega) | (exact Fin.q Try.results46 (.cons (.tmp rfl) .nil) [])
    · refine Cd.enter' Try.func46 rfl Try.ntmps46 rfl ?_
      repeat' (first | ((with_reducible refine kAL ?_); (first | refine A_box rfl rfl 66 _ rfl rfl (.push qL qN) ?_ | refine A_as rfl rfl rfl rfl ?_ | refine A_field rfl rfl 66 _ 0 rfl ud66 rfl inf3 (by decide) 0 rfl rfl ?_ | refine A_load rfl rfl 3 _ rfl ud3 rfl rfl rfl rfl ?_ | refine A_cmp (d := 9) rfl rfl (c := false) .eql 3 3 _ _ rfl rfl rfl (by exact congrArg some (decide_eq_false (by (try (dsimp only; fail_if_success done)); omega))) ?_ | refine A_mt rfl rfl rfl rfl ?_ | (refine kL 19 rfl ?_; refine A_pkf rfl rfl _ _ _ rfl rfl rfl ?_) | refine AL.nil ?_ | refine AL.skip rfl rfl ?_)) | with_reducible refine AW.at_region _ ?_ | (with_reducible (first | refine wk0 ?_ | refine wk2 ?_ | refine wk9 ?_ | refine wkb ?_)))
      all_goals first | (exfalso; omega) | (exact Fin.q Try.results46 (.cons (.tmp rfl) .nil) [])
set_option maxHeartbeats 8000000 in
theorem eqFC_c (f : FuncId) (a b : List DChan) (h0 : a.length ≤ 1152921504606846976) (hb : ∀ x ∈ a, x.buf.length ≤ 1152921504606846976) (hg : ∀ x y : DChan, x.buf.length ≤ 1152921504606846976 → CV Try.prog (.fn (.func f) [] []) [aCh x, aCh y] (bo (decide (x = y))) []) (hup : upB (keepG 0) (.fn (.func f) [] []) = .fn (.func f) [] []) :
    Cd Try.prog 45 [.ln (a.map tCh), .ln (b.map tCh), .fn (.func f) [] []] (bo (decide (a = b))) [] := by
  have h1 : (a.map tCh).length = a.length := List.length_map _
  have h2 : (b.map tCh).length = b.length := List.length_map _
  refine Cd.enter' Try.func45 rfl Try.ntmps45 rfl ?_
  repeat' (first | ((with_reducible refine kAL ?_); (first | refine A_as rfl rfl rfl rfl ?_ | (refine kL 0 rfl ?_; (first | refine A_mt rfl rfl rfl rfl ?_ | refine A_move rfl rfl _ (.inl rfl) (y := .ln _) rfl ?_)) | refine A_len rfl rfl 25 _ rfl ud25 rfl ?_ | refine A_cmp (d := 14) rfl rfl .neq 3 3 _ _ rfl rfl rfl rfl ?_ | refine AL.nil ?_)) | with_reducible refine AW.at_region _ ?_ | (with_reducible (first | refine wk0 ?_ | refine wk1 ?_ | refine wk2 ?_ | refine wk3 ?_ | refine wk9 ?_ | refine wkb ?_ | refine wkd ?_)) | refine kcp rfl (fun hc => ?_) (fun hc => ?_))
  · refine Fin.q Try.results45 (.cons (.tmp rfl) .nil) [] (hr := (.t ?_))
    have : a ≠ b := by rintro rfl; exact hc rfl
    simp [this]
  · refine AW.loopP (fun (i : Nat) => ∀ j, j < i → a.getD j default = b.getD j default) (fun (i : Nat) => (pu (pu (pu (pu (pu (pu (fun _ => .any) 0 (.ln (a.map tCh))) 1 (.ln (b.map tCh))) 2 (.fn (.func f) [] [])) 15 (.ln (a.map tCh))) 16 (i64 (a.map tCh).length)) 17 (i64 i))) (fun (i : Nat) => []) (fun (i : Nat) => a.length + 1 - i) (0) ?_ ?_ ?_
    · intro j hj; omega
    · exact Wk.cq 0
    · intro i hi
      by_cases hq : i < a.length
      · obtain ⟨x, hx⟩ : ∃ x, a[i]? = some x := ⟨_, List.getElem?_eq_getElem hq⟩
        obtain ⟨y, hy⟩ : ∃ y, b[i]? = some y := ⟨_, List.getElem?_eq_getElem (by omega)⟩
        have cS := hg x y (hb x (List.mem_of_getElem? hx))
        by_cases e : x = y
        · rw [decide_eq_true e] at cS
          have hn : ∀ j, j < i + 1 → a.getD j default = b.getD j default := fun j hj => by
            by_cases ej : j = i
            · subst ej; rw [getD_of hx, getD_of hy]; exact e
            · exact hi j (by omega)
          obtain ⟨x1, x2, x3, x4, x5⟩ := x
          obtain ⟨y1, y2, y3, y4, y5⟩ := y
          repeat' (first | ((with_reducible refine kAL ?_); (first | refine A_as rfl rfl rfl rfl ?_ | (refine kL 0 rfl ?_; (first | refine A_mt rfl rfl rfl rfl ?_ | refine A_move rfl rfl _ (.inl rfl) (y := .ln _) rfl ?_ | refine A_move rfl rfl _ (.inl rfl) (y := .fn _ _ _) rfl ?_)) | (refine kL 105 rfl ?_; (first | refine A_cmp (d := 18) rfl rfl (c := true) .lss 3 3 _ _ rfl rfl rfl (by exact congrArg some (decide_eq_true (by (try (dsimp only; fail_if_success done)); omega))) ?_ | refine A_add rfl rfl 3 3 _ _ rfl rfl rfl (by exact wi) ?_)) | (refine kL 806 rfl ?_; refine A_idx rfl rfl 25 _ _ rfl ud25 inf66 (by decide) (by exact .inl rfl) rfl (by omega) _ (by with_reducible exact Int.toNat_natCast _) (by exact map_get (by assumption)) rfl (cs' := [_, _, _, _, _]) rfl ?_) | (refine kL 2114 rfl ?_; (first | refine A_load_agg rfl rfl 66 _ rfl ud66 rfl inf66 rfl rfl (us' := [_, _, _, _, _]) rfl rfl ?_ | refine A_load_lp_agg rfl rfl 66 _ rfl ud66 rfl inf66 rfl (us' := [_, _, _, _, _]) rfl rfl ?_)) | refine A_alloc rfl rfl 66 rfl inf66 (cs := [.t (.v (.int .i64 0)), .t (.v (.int .i64 0)), .t (.v (.bool false)), .t (.v (.bool false)), AV.nl]) rfl (.push qL qN) ?_ | refine A_store rfl rfl 66 _ _ rfl inf66 rfl rfl rfl rfl (Nat.le_of_ble_eq_true rfl) qN qN ?_ | (refine kL 11 rfl ?_; refine A_callv rfl rfl rfl rfl (cS) (by ((repeat (first | exact .nil | refine .cons ?_ ?_ | exact .t _ | refine .aggL ?_ | exact .lst _)); (first | done | fail))) qL qU qU qN ?_) | refine A_not rfl rfl _ _ rfl rfl ?_ | refine AL.nil ?_)) | with_reducible refine AW.at_region _ ?_ | (with_reducible (first | refine wk0 ?_ | refine wk1 ?_ | refine wk2 ?_ | refine wk5 ?_ | refine wkd ?_)) | refine kct rfl ?_ | refine kcf rfl ?_)
          all_goals first | (exfalso; omega) | skip
          refine ⟨i + 1, hn, by omega, ?_⟩
          exact Wk.cq 0
        · rw [decide_eq_false e] at cS
          rw [show decide (a = b) = false from decide_eq_false (by rintro rfl; rw [hx] at hy; cases hy; exact e rfl)]
          obtain ⟨x1, x2, x3, x4, x5⟩ := x
          obtain ⟨y1, y2, y3, y4, y5⟩ := y
          repeat' (first | ((with_reducible refine kAL ?_); (first | refine A_as rfl rfl rfl rfl ?_ | (refine kL 0 rfl ?_; (first | refine A_mt rfl rfl rfl rfl ?_ | refine A_move rfl rfl _ (.inl rfl) (y := .ln _) rfl ?_ | refine A_move rfl rfl _ (.inl rfl) (y := .fn _ _ _) rfl ?_)) | refine A_cmp (d := 18) rfl rfl (c := true) .lss 3 3 _ _ rfl rfl rfl (by exact congrArg some (decide_eq_true (by (try (dsimp only; fail_if_success done)); omega))) ?_ | (refine kL 806 rfl ?_; refine A_idx rfl rfl 25 _ _ rfl ud25 inf66 (by decide) (by exact .inl rfl) rfl (by omega) _ (by with_reducible exact Int.toNat_natCast _) (by exact map_get (by assumption)) rfl (cs' := [_, _, _, _, _]) rfl ?_) | (refine kL 2114 rfl ?_; (first | refine A_load_agg rfl rfl 66 _ rfl ud66 rfl inf66 rfl rfl (us' := [_, _, _, _, _]) rfl rfl ?_ | refine A_load_lp_agg rfl rfl 66 _ rfl ud66 rfl inf66 rfl (us' := [_, _, _, _, _]) rfl rfl ?_)) | refine A_alloc rfl rfl 66 rfl inf66 (cs := [.t (.v (.int .i64 0)), .t (.v (.int .i64 0)), .t (.v (.bool false)), .t (.v (.bool false)), AV.nl]) rfl (.push qL qN) ?_ | refine A_store rfl rfl 66 _ _ rfl inf66 rfl rfl rfl rfl (Nat.le_of_ble_eq_true rfl) qN qN ?_ | (refine kL 11 rfl ?_; refine A_callv rfl rfl rfl rfl (cS) (by ((repeat (first | exact .nil | refine .cons ?_ ?_ | exact .t _ | refine .aggL ?_ | exact .lst _)); (first | done | fail))) qL qU qU qN ?_) | refine A_not rfl rfl _ _ rfl rfl ?_ | refine AL.nil ?_)) | with_reducible refine AW.at_region _ ?_ | (with_reducible (first | refine wk0 ?_ | refine wk1 ?_ | refine wk2 ?_ | refine wk3 ?_ | refine wk6 ?_ | refine wk9 ?_ | refine wkb ?_ | refine wkd ?_)) | refine kct rfl ?_)
          all_goals first | (exfalso; omega) | (exact Fin.q Try.results45 (.cons (.tmp rfl) .nil) [])
      · rw [show decide (a = b) = true from decide_eq_true (all_eq (z := default) (by omega) fun j hj => hi j (by omega))]
        repeat' (first | ((with_reducible refine kAL ?_); (first | refine A_as rfl rfl rfl rfl ?_ | refine A_cmp (d := 18) rfl rfl (c := false) .lss 3 3 _ _ rfl rfl rfl (by exact congrArg some (decide_eq_false (by (try (dsimp only; fail_if_success done)); omega))) ?_ | refine AL.nil ?_)) | with_reducible refine AW.at_region _ ?_ | (with_reducible (first | refine wk0 ?_ | refine wk2 ?_ | refine wk4 ?_ | refine wk7 ?_ | refine wk9 ?_ | refine wkb ?_ | refine wkc ?_)) | refine kcf rfl ?_)
        all_goals first | (exfalso; omega) | (exact Fin.q Try.results45 (.cons (.tmp rfl) .nil) [])
theorem DHall_ext {a b : DHall} : a = b ↔ a.ticket = b.ticket ∧ a.chans = b.chans ∧ a.waits = b.waits ∧ a.done = b.done := by
  obtain ⟨a1, a2, a3, a4⟩ := a; obtain ⟨b1, b2, b3, b4⟩ := b; simp
set_option maxHeartbeats 8000000 in
theorem hsame_c (a b : DHall) (h0 : a.chans.length ≤ 1152921504606846976) (hb : ∀ x ∈ a.chans, x.buf.length ≤ 1152921504606846976) (hw : okW a.waits) (hd : a.done.length ≤ 1152921504606846976) : Cd Try.prog 23 [aHl a, aHl b] (bo (decide (a = b))) [] := by
  have cE := eqFC_c 46 a.chans b.chans h0 hb (fun x y hx => ⟨_, _, [], [], rfl, Try.func46, by kernel_rfl, by kernel_rfl, fun _ => .nil, fun _ => .nil, csame1_c x y hx⟩) rfl
  have cW := wsame_c a.waits b.waits hw
  have cR := eqRs_c a.done b.done hd
  rw [decide_eq_decide.2 DHall_ext]
  by_cases e1 : a.ticket = b.ticket
  · by_cases e2 : a.chans = b.chans
    · by_cases e3 : a.waits = b.waits
      · rw [decide_eq_true e2] at cE
        rw [decide_eq_true e3] at cW
        by_cases e4 : a.done = b.done
        · rw [decide_eq_true e4] at cR
          rw [decide_eq_true (show (a.ticket = b.ticket ∧ a.chans = b.chans ∧ a.waits = b.waits ∧ a.done = b.done) from ⟨e1, e2, e3, e4⟩)]
          first | refine Cd.enter' Try.func23 rfl Try.ntmps23 rfl ?_ | refine Cio.enter' Try.func23 rfl Try.ntmps23 rfl qM ?_ | refine C.enter' Try.func23 rfl Try.ntmps23 rfl qM ?_
          repeat' (first | ((with_reducible refine kAL ?_); (first | refine A_box rfl rfl 29 _ rfl rfl (.push qL qN) ?_ | refine A_as rfl rfl rfl rfl ?_ | (refine kL 932 rfl ?_; (first | refine A_field rfl rfl 29 _ 0 rfl ud29 rfl inf3 (by decide) 0 rfl rfl ?_ | refine A_field rfl rfl 29 _ 1 rfl ud29 rfl inf25 (by decide) 1 rfl rfl ?_ | refine A_field rfl rfl 29 _ 2 rfl ud29 rfl inf26 (by decide) 2 rfl rfl ?_ | refine A_field rfl rfl 29 _ 3 rfl ud29 rfl inf27 (by decide) 3 rfl rfl ?_)) | refine A_load rfl rfl 3 _ rfl ud3 rfl rfl rfl rfl ?_ | refine A_cmp (d := 9) rfl rfl (c := true) .eql 3 3 _ _ rfl rfl rfl (by exact congrArg some (decide_eq_true (by (try (dsimp only; fail_if_success done)); omega))) ?_ | refine A_mt rfl rfl rfl rfl ?_ | refine A_load rfl rfl 25 _ rfl ud25 rfl rfl rfl rfl ?_ | (refine kL 1450 rfl ?_; refine A_cl rfl rfl Try.func45 rfl (cE) ?_) | (refine kL 19 rfl ?_; refine A_pkt rfl rfl _ _ _ rfl rfl rfl ?_) | refine A_load rfl rfl 26 _ rfl ud26 rfl rfl rfl rfl ?_ | (refine kL 1514 rfl ?_; refine A_cl rfl rfl Try.func47 rfl (cW) ?_) | refine A_load rfl rfl 27 _ rfl ud27 rfl rfl rfl rfl ?_ | (refine kL 1546 rfl ?_; refine A_cl rfl rfl Try.func48 rfl (cR) ?_) | refine AL.nil ?_)) | with_reducible refine AW.at_region _ ?_ | (with_reducible (first | refine wk0 ?_ | refine wk2 ?_ | refine wk9 ?_ | refine wkb ?_)))
          all_goals first | (exfalso; omega) | (exact Fin.q Try.results23 (.cons (.tmp rfl) .nil) [])
        · rw [decide_eq_false e4] at cR
          rw [decide_eq_false (show ¬ (a.ticket = b.ticket ∧ a.chans = b.chans ∧ a.waits = b.waits ∧ a.done = b.done) by simp [e4])]
          first | refine Cd.enter' Try.func23 rfl Try.ntmps23 rfl ?_ | refine Cio.enter' Try.func23 rfl Try.ntmps23 rfl qM ?_ | refine C.enter' Try.func23 rfl Try.ntmps23 rfl qM ?_
          repeat' (first | ((with_reducible refine kAL ?_); (first | refine A_box rfl rfl 29 _ rfl rfl (.push qL qN) ?_ | refine A_as rfl rfl rfl rfl ?_ | (refine kL 932 rfl ?_; (first | refine A_field rfl rfl 29 _ 0 rfl ud29 rfl inf3 (by decide) 0 rfl rfl ?_ | refine A_field rfl rfl 29 _ 1 rfl ud29 rfl inf25 (by decide) 1 rfl rfl ?_ | refine A_field rfl rfl 29 _ 2 rfl ud29 rfl inf26 (by decide) 2 rfl rfl ?_ | refine A_field rfl rfl 29 _ 3 rfl ud29 rfl inf27 (by decide) 3 rfl rfl ?_)) | refine A_load rfl rfl 3 _ rfl ud3 rfl rfl rfl rfl ?_ | refine A_cmp (d := 9) rfl rfl (c := true) .eql 3 3 _ _ rfl rfl rfl (by exact congrArg some (decide_eq_true (by (try (dsimp only; fail_if_success done)); omega))) ?_ | refine A_mt rfl rfl rfl rfl ?_ | refine A_load rfl rfl 25 _ rfl ud25 rfl rfl rfl rfl ?_ | (refine kL 1450 rfl ?_; refine A_cl rfl rfl Try.func45 rfl (cE) ?_) | (refine kL 19 rfl ?_; refine A_pkt rfl rfl _ _ _ rfl rfl rfl ?_) | refine A_load rfl rfl 26 _ rfl ud26 rfl rfl rfl rfl ?_ | (refine kL 1514 rfl ?_; refine A_cl rfl rfl Try.func47 rfl (cW) ?_) | refine A_load rfl rfl 27 _ rfl ud27 rfl rfl rfl rfl ?_ | (refine kL 1546 rfl ?_; refine A_cl rfl rfl Try.func48 rfl (cR) ?_) | refine AL.nil ?_)) | with_reducible refine AW.at_region _ ?_ | (with_reducible (first | refine wk0 ?_ | refine wk2 ?_ | refine wk9 ?_ | refine wkb ?_)))
          all_goals first | (exfalso; omega) | (exact Fin.q Try.results23 (.cons (.tmp rfl) .nil) [])
      · rw [decide_eq_true e2] at cE
        rw [decide_eq_false e3] at cW
        rw [decide_eq_false (show ¬ (a.ticket = b.ticket ∧ a.chans = b.chans ∧ a.waits = b.waits ∧ a.done = b.done) by simp [e3])]
        first | refine Cd.enter' Try.func23 rfl Try.ntmps23 rfl ?_ | refine Cio.enter' Try.func23 rfl Try.ntmps23 rfl qM ?_ | refine C.enter' Try.func23 rfl Try.ntmps23 rfl qM ?_
        repeat' (first | ((with_reducible refine kAL ?_); (first | refine A_box rfl rfl 29 _ rfl rfl (.push qL qN) ?_ | refine A_as rfl rfl rfl rfl ?_ | (refine kL 932 rfl ?_; (first | refine A_field rfl rfl 29 _ 0 rfl ud29 rfl inf3 (by decide) 0 rfl rfl ?_ | refine A_field rfl rfl 29 _ 1 rfl ud29 rfl inf25 (by decide) 1 rfl rfl ?_ | refine A_field rfl rfl 29 _ 2 rfl ud29 rfl inf26 (by decide) 2 rfl rfl ?_)) | refine A_load rfl rfl 3 _ rfl ud3 rfl rfl rfl rfl ?_ | refine A_cmp (d := 9) rfl rfl (c := true) .eql 3 3 _ _ rfl rfl rfl (by exact congrArg some (decide_eq_true (by (try (dsimp only; fail_if_success done)); omega))) ?_ | refine A_mt rfl rfl rfl rfl ?_ | refine A_load rfl rfl 25 _ rfl ud25 rfl rfl rfl rfl ?_ | (refine kL 1450 rfl ?_; refine A_cl rfl rfl Try.func45 rfl (cE) ?_) | (refine kL 19 rfl ?_; (first | refine A_pkt rfl rfl _ _ _ rfl rfl rfl ?_ | refine A_pkf rfl rfl _ _ _ rfl rfl rfl ?_)) | refine A_load rfl rfl 26 _ rfl ud26 rfl rfl rfl rfl ?_ | (refine kL 1514 rfl ?_; refine A_cl rfl rfl Try.func47 rfl (cW) ?_) | refine AL.nil ?_ | refine AL.skip rfl rfl ?_)) | with_reducible refine AW.at_region _ ?_ | (with_reducible (first | refine wk0 ?_ | refine wk2 ?_ | refine wk9 ?_ | refine wkb ?_)))
        all_goals first | (exfalso; omega) | (exact Fin.q Try.results23 (.cons (.tmp rfl) .nil) [])
    · rw [decide_eq_false e2] at cE
      rw [decide_eq_false (show ¬ (a.ticket = b.ticket ∧ a.chans = b.chans ∧ a.waits = b.waits ∧ a.done = b.done) by simp [e2])]
      first | refine Cd.enter' Try.func23 rfl Try.ntmps23 rfl ?_ | refine Cio.enter' Try.func23 rfl Try.ntmps23 rfl qM ?_ | refine C.enter' Try.func23 rfl Try.ntmps23 rfl qM ?_
      repeat' (first | ((with_reducible refine kAL ?_); (first | refine A_box rfl rfl 29 _ rfl rfl (.push qL qN) ?_ | refine A_as rfl rfl rfl rfl ?_ | (refine kL 932 rfl ?_; (first | refine A_field rfl rfl 29 _ 0 rfl ud29 rfl inf3 (by decide) 0 rfl rfl ?_ | refine A_field rfl rfl 29 _ 1 rfl ud29 rfl inf25 (by decide) 1 rfl rfl ?_)) | refine A_load rfl rfl 3 _ rfl ud3 rfl rfl rfl rfl ?_ | refine A_cmp (d := 9) rfl rfl (c := true) .eql 3 3 _ _ rfl rfl rfl (by exact congrArg some (decide_eq_true (by (try (dsimp only; fail_if_success done)); omega))) ?_ | refine A_mt rfl rfl rfl rfl ?_ | refine A_load rfl rfl 25 _ rfl ud25 rfl rfl rfl rfl ?_ | (refine kL 1450 rfl ?_; refine A_cl rfl rfl Try.func45 rfl (cE) ?_) | (refine kL 19 rfl ?_; (first | refine A_pkt rfl rfl _ _ _ rfl rfl rfl ?_ | refine A_pkf rfl rfl _ _ _ rfl rfl rfl ?_)) | refine AL.nil ?_ | refine AL.skip rfl rfl ?_)) | with_reducible refine AW.at_region _ ?_ | (with_reducible (first | refine wk0 ?_ | refine wk2 ?_ | refine wk9 ?_ | refine wkb ?_)))
      all_goals first | (exfalso; omega) | (exact Fin.q Try.results23 (.cons (.tmp rfl) .nil) [])
  · rw [decide_eq_false (show ¬ (a.ticket = b.ticket ∧ a.chans = b.chans ∧ a.waits = b.waits ∧ a.done = b.done) by simp [e1])]
    first | refine Cd.enter' Try.func23 rfl Try.ntmps23 rfl ?_ | refine Cio.enter' Try.func23 rfl Try.ntmps23 rfl qM ?_ | refine C.enter' Try.func23 rfl Try.ntmps23 rfl qM ?_
    repeat' (first | ((with_reducible refine kAL ?_); (first | refine A_box rfl rfl 29 _ rfl rfl (.push qL qN) ?_ | refine A_as rfl rfl rfl rfl ?_ | refine A_field rfl rfl 29 _ 0 rfl ud29 rfl inf3 (by decide) 0 rfl rfl ?_ | refine A_load rfl rfl 3 _ rfl ud3 rfl rfl rfl rfl ?_ | refine A_cmp (d := 9) rfl rfl (c := false) .eql 3 3 _ _ rfl rfl rfl (by exact congrArg some (decide_eq_false (by (try (dsimp only; fail_if_success done)); omega))) ?_ | refine A_mt rfl rfl rfl rfl ?_ | (refine kL 19 rfl ?_; refine A_pkf rfl rfl _ _ _ rfl rfl rfl ?_) | refine AL.nil ?_ | refine AL.skip rfl rfl ?_)) | with_reducible refine AW.at_region _ ?_ | (with_reducible (first | refine wk0 ?_ | refine wk2 ?_ | refine wk9 ?_ | refine wkb ?_)))
    all_goals first | (exfalso; omega) | (exact Fin.q Try.results23 (.cons (.tmp rfl) .nil) [])
end Go.Proofs.Ytphcebioiipdpaa


/- Halls behind calls: what stays small, and what is so of each hall that calls lead to. No program in sight. -/
namespace Go.Proofs.Ytphcebioiipdpaa
set_option linter.unusedVariables false
set_option linter.unusedSimpArgs false
set_option linter.unnecessarySimpa false
open Go.RowKit
/-- calls that wait: small, and none but those that wait have anything -/
structure Wq (l : List DWait) : Prop where
  s : ∀ w ∈ l, w.cases.length ≤ 3
  off : ∀ w ∈ l, w.on = false → w = w0
theorem Wq.set {l : List DWait} (h : Wq l) {t : Nat} {w : DWait} (h1 : w.cases.length ≤ 3) (h2 : w.on = false → w = w0) : Wq (l.set t w) :=
  ⟨fun x hx => by rcases List.mem_or_eq_of_mem_set hx with hx | rfl; exact h.s x hx; exact h1, fun x hx => by rcases List.mem_or_eq_of_mem_set hx with hx | rfl; exact h.off x hx; exact h2⟩
theorem Wq.cut {l : List DWait} (h : Wq l) (t : Int) : Wq (cutW l t) := by
  unfold cutW; split
  · exact h.set (by decide) (fun _ => rfl)
  · exact h
theorem Wq.put {l : List DWait} (h : Wq l) (t : Int) {w : DWait} (hw : w.cases.length ≤ 3) : Wq (putW l t w) := by
  unfold putW; split
  · exact h.set hw (fun e => by cases e)
  · exact h
theorem Wq.doG {c : DChan} {x : Int} {l : List DWait} {d v : Int} (h : Wq l) : Wq (doG c x l d v).l := by
  rcases doG_all c x l d v with ⟨_, h2, _, _⟩ | ⟨t, m, w, z, _, _, hw, _, h1, h2, h3, _⟩
  · rw [h2]; exact h
  · rw [h2]; exact h.set (by decide) (fun _ => rfl)
/-- halls that so many calls can lead to -/
structure HBd (k : Nat) (h : DHall) : Prop where
  tk : 0 ≤ h.ticket ∧ h.ticket ≤ k
  bl : ∀ x ∈ h.chans, x.buf.length ≤ k
  gn : ∀ x ∈ h.chans, 0 ≤ x.gen ∧ x.gen ≤ 4095
  w : Wq h.waits
theorem HBd.up {k k' : Nat} {h : DHall} (b : HBd k h) (hk : k ≤ k') : HBd k' h := ⟨⟨b.tk.1, by have := b.tk.2; omega⟩, fun x hx => Nat.le_trans (b.bl x hx) hk, b.gn, b.w⟩
/-- so many channels, and so many threads -/
structure Ln (p th : Nat) (h : DHall) : Prop where
  c : h.chans.length = p
  w : h.waits.length = th
  d : h.done.length = th
theorem HBd.ok {k p th : Nat} {h : DHall} (b : HBd k h) (l : Ln p th h) (hk : k ≤ 1000) (hp : p ≤ 1000) (ht : th ≤ 1000) : okHl h :=
  ⟨by rw [l.c]; omega, fun x hx => by have := b.bl x hx; omega, ⟨by rw [l.w]; omega, fun w hw => by have := b.w.s w hw; omega⟩, by rw [l.d]; omega⟩
theorem HBd.okQ {k : Nat} {h : DHall} (b : HBd k h) {q : DReq} (hq : sRq q) (hl : q.cases.length ≤ 5864062014805) : okQ h q :=
  ⟨hq.2.1, hq.2.2.1, hq.2.2.2.2.2, hl, by have := b.tk.1; omega, fun x hx => by have := b.gn x hx; unfold sI; omega⟩
end Go.Proofs.Ytphcebioiipdpaa


/- Calls of threads, one by one. -/
namespace Go.Proofs.Ytphcebioiipdpaa
set_option linter.unusedVariables false
set_option linter.unusedSimpArgs false
set_option linter.unnecessarySimpa false
open Go.RowKit Go.ChangeShapes Go.WideShapes
structure DMove where
  thread : Int
  req : DReq
  deriving DecidableEq, Inhabited
def tMv (x : DMove) : List Tr := tI x.thread ++ tRq x.req
def sMv (x : DMove) : Prop := sI x.thread ∧ sRq x.req
def bMv (x : DMove) : Nat := b1 x.thread + bRq x.req
end Go.Proofs.Ytphcebioiipdpaa


/- Halls that calls lead to; what a call of some cases comes to: the plain law. No program in sight. -/
namespace Go.Proofs.Ytphcebioiipdpaa
set_option linter.unusedVariables false
set_option linter.unusedSimpArgs false
set_option linter.unnecessarySimpa false
open Go.RowKit
def startH (c : DConf) : DHall := ⟨0, stC c.start (plN c) (plN c), List.replicate (thN c) ⟨false, 0, 0, []⟩, List.replicate (thN c) ⟨0, 0, 0, 0⟩⟩
theorem startH_ln (c : DConf) : Ln (plN c) (thN c) (startH c) := ⟨stC_len _ _ _, List.length_replicate, List.length_replicate⟩
def mayGo (h : DHall) (t : Int) : Bool := decide (0 ≤ t ∧ t < (h.waits.length : Int)) && !(h.waits.getD t.toNat default).on
def runH (c : DConf) (l : List DMove) : Nat → DHall
  | 0 => startH c
  | k + 1 => if mayGo (runH c l k) (l.getD k default).thread then applyH c (runH c l k) (l.getD k default).thread ((k : Int) + 1) (l.getD k default).req else runH c l k
/-! what a call of some cases comes to -/
end Go.Proofs.Ytphcebioiipdpaa

