/- Joined: TLaw12, TSmall. -/
import Derived.Test.YtphcebioiipdpaaJL12bh
import Derived.Test.YtphcebioiipdpaaJL12bd
/- The laws of layer 12: the example, HallApplies, HallFinds. -/
namespace Go.Proofs.Ytphcebioiipdpaa
set_option linter.unusedVariables false
set_option linter.unusedSimpArgs false
set_option linter.unnecessarySimpa false
open Go.RowKit
set_option maxHeartbeats 32000000
attribute [local irreducible] AL AW RG Fin C Cd Cio thenQ blockQ retQ
set_option maxRecDepth 100000
def c12 : DConf := ⟨3, 2, 2, 1, 4, 1, 0, 9, 99, 3, [0]⟩
def h12 : DHall := ⟨0, [⟨1, 0, true, false, []⟩, ⟨0, 0, false, false, []⟩], [⟨false, 0, 0, []⟩, ⟨false, 0, 0, []⟩], [⟨0, 0, 0, 0⟩, ⟨0, 0, 0, 0⟩]⟩
def h12b : DHall := ⟨1, [⟨1, 0, true, false, []⟩, ⟨0, 0, false, false, []⟩], [⟨true, 0, 1, [⟨2, 8, 0⟩]⟩, ⟨false, 0, 0, []⟩], [⟨1, 0, 14, 0⟩, ⟨0, 0, 0, 0⟩]⟩
def h12c : DHall := ⟨1, [⟨1, 0, true, false, []⟩, ⟨0, 0, false, false, []⟩], [⟨false, 0, 0, []⟩, ⟨false, 0, 0, []⟩], [⟨1, 0, 0, 5⟩, ⟨1, 0, 0, 0⟩]⟩
theorem small12_c : Cd Try.prog 16 [] (fCf c12) [] := by
  dsimp only [fCf, c12]
  refine Cd.enter' Try.func16 rfl Try.ntmps16 rfl ?_
  repeat' (first | ((with_reducible refine kAL ?_); (first | (refine kL 719 rfl ?_; (refine A_lit (d := 1) rfl rfl 22 1 _ rfl ud22 inf3 (.cons rfl .nil) (els := [[_]]) rfl (by exact (rfl : _ = List.map tI [_])) rfl (Nat.ne_of_beq_eq_false rfl) (Nat.le_of_ble_eq_true rfl) (Nat.le_of_ble_eq_true rfl) (.push qL qN) ?_; (try refine AL.wk (Wk.freeze 1 rfl 1 rfl (by exact .all (by rfl)) qN) ?_))) | refine A_alloc rfl rfl 24 rfl inf24 (cs := [.t (.v (.int .i64 0)), .t (.v (.int .i64 0)), .t (.v (.int .i64 0)), .t (.v (.int .i64 0)), .t (.v (.int .i64 0)), .t (.v (.int .i64 0)), .t (.v (.int .i64 0)), .t (.v (.int .i64 0)), .t (.v (.int .i64 0)), .t (.v (.int .i64 0)), AV.nl]) rfl (.push qL qN) ?_ | (refine kL 782 rfl ?_; refine A_build rfl rfl 24 _ rfl ud24 inf24 [(0, 1), (1, 1), (2, 1), (3, 1), (4, 1), (5, 1), (6, 1), (7, 1), (8, 1), (9, 1), (10, 1)] (by kernel_rfl) (zs := [.t (.v (.int .i64 0)), .t (.v (.int .i64 0)), .t (.v (.int .i64 0)), .t (.v (.int .i64 0)), .t (.v (.int .i64 0)), .t (.v (.int .i64 0)), .t (.v (.int .i64 0)), .t (.v (.int .i64 0)), .t (.v (.int .i64 0)), .t (.v (.int .i64 0)), AV.nl]) rfl (.cons rfl (.cons rfl (.cons rfl (.cons rfl (.cons rfl (.cons rfl (.cons rfl (.cons rfl (.cons rfl (.cons rfl .nil)))))))))) (cs := [_, _, _, _, _, _, _, _, _, _, _]) rfl ?_) | refine A_store rfl rfl 24 _ _ rfl inf24 rfl rfl rfl rfl (Nat.le_of_ble_eq_true rfl) qN qN ?_ | refine AL.nil ?_)) | with_reducible refine AW.at_region _ ?_ | (with_reducible (first | refine wk0 ?_ | refine wk2 ?_ | refine wk9 ?_ | refine wkb ?_)))
  all_goals first | (exfalso; omega) | (exact Fin.q Try.results16 (.cons (.agg rfl rfl ud24 rfl inf24 (us := [_, _, _, _, _, _, _, _, _, _, _]) rfl rfl) .nil) [])
theorem apF_c (c : DConf) (h : DHall) (t n : Int) (q : DReq) (hq : okQ h q) (hh : okHl h) :
    Cd Try.prog 10 [fCf c, aHl h, i64 t, i64 n, aRq q] (.agg [i64 (applyH c h t n q).ticket, .t (.lst ((applyH c h t n q).chans.map tCh)), .t (.lst ((applyH c h t n q).waits.map tWt)), .t (.lst ((applyH c h t n q).done.map tR))]) [] := by
  have h0 := apply_c c h t n q hq hh
  have e1 := (applyH_len c h t n q).1
  have e2 := (applyH_len c h t n q).2
  generalize applyH c h t n q = g at *
  rw [← e1, ← e2] at h0
  have h0' := Cd.frz1 h0 0 rfl (by repeat' (first | exact FzL.nil | apply FzL.cons | exact FzR.nlt | exact FzR.all (by first | rfl | (simp <;> fail) | (simp; omega)) | exact FzR.sl (by first | exact Nat.le_refl _ | (simp <;> fail) | (simp; omega)) | apply FzR.aggL | exact FzR.same _)) rfl; have h0'' := Cd.frz1 h0' 1 rfl (by repeat' (first | exact FzL.nil | apply FzL.cons | exact FzR.nlt | exact FzR.all (by first | rfl | (simp <;> fail) | (simp; omega)) | exact FzR.sl (by first | exact Nat.le_refl _ | (simp <;> fail) | (simp; omega)) | apply FzR.aggL | exact FzR.same _)) rfl; exact Cd.drop h0'' rfl
theorem ap12b : applyH c12 h12 0 1 ⟨3, 0, 0, false, [⟨2, 8, 0⟩]⟩ = h12b := by decide +kernel
theorem ap12c : applyH c12 h12b 1 1 ⟨3, 0, 0, false, [⟨1, 8, 5⟩]⟩ = h12c := by decide +kernel
theorem hd12 : handH h12c = [8] := by decide +kernel
theorem okHl_of {h : DHall} (h1 : h.chans.length ≤ 3 ∧ h.waits.length ≤ 5 ∧ h.done.length ≤ 5) (h2 : h.chans.all (fun x => decide (x.buf.length ≤ 100)) = true) (h3 : h.waits.all (fun w => decide (w.cases.length ≤ 3)) = true) : okHl h :=
  ⟨by omega, fun x hx => by have := of_decide_eq_true (List.all_eq_true.1 h2 x hx); omega, ⟨by omega, fun w hw => by have := of_decide_eq_true (List.all_eq_true.1 h3 w hw); omega⟩, by omega⟩
def okQb (h : DHall) (q : DReq) : Bool := decide (-1000 ≤ q.arg ∧ q.arg ≤ 1000) && decide (-1000 ≤ q.value ∧ q.value ≤ 1000) && q.cases.all (fun x => decide (-1000 ≤ x.dir ∧ x.dir ≤ 1000 ∧ -1000 ≤ x.handle ∧ x.handle ≤ 1000 ∧ -1000 ≤ x.value ∧ x.value ≤ 1000)) && decide (q.cases.length ≤ 3) && decide (-1000 ≤ h.ticket) && h.chans.all (fun x => decide (-1000 ≤ x.gen ∧ x.gen ≤ 1000))
theorem okQ_of {h : DHall} {q : DReq} (hb : okQb h q = true) : okQ h q := by
  unfold okQb at hb
  simp only [Bool.and_eq_true, decide_eq_true_eq, List.all_eq_true] at hb
  obtain ⟨⟨⟨⟨⟨h1, h2⟩, h3⟩, h4⟩, h5⟩, h6⟩ := hb
  exact ⟨by unfold sI; omega, by unfold sI; omega, fun x hx => by have := h3 x hx; unfold sCs sI; omega, by omega, by omega, fun x hx => by have := h6 x hx; unfold sI; omega⟩
theorem stF_c (c : DConf) (hs : c.start.length ≤ 1152921504606846976) : Cd Try.prog 13 [aCf c] (.agg [i64 (startH c).ticket, .t (.lst ((startH c).chans.map tCh)), .t (.lst ((startH c).waits.map tWt)), .t (.lst ((startH c).done.map tR))]) [] := by
  have h0 := hstart_c c hs
  have l := startH_ln c
  have e1 := l.c
  have e2 := l.w
  have e3 := l.d
  have hh : Cd Try.prog 13 [aCf c] (.agg [i64 (startH c).ticket, .sl 0 0 (startH c).chans.length, .sl 1 0 (startH c).waits.length, .sl 2 0 (startH c).done.length]) [.row 0 66 5 ((startH c).chans.map tCh), .row 0 43 4 ((startH c).waits.map tWt), .row 0 50 4 ((startH c).done.map tR)] := by rw [e1, e2, e3]; exact h0
  generalize startH c = g at *
  have hh' := Cd.frz1 hh 0 rfl (by repeat' (first | exact FzL.nil | apply FzL.cons | exact FzR.nlt | exact FzR.all (by first | rfl | (simp <;> fail) | (simp; omega)) | exact FzR.sl (by first | exact Nat.le_refl _ | (simp <;> fail) | (simp; omega)) | apply FzR.aggL | exact FzR.same _)) rfl; have hh'' := Cd.frz1 hh' 1 rfl (by repeat' (first | exact FzL.nil | apply FzL.cons | exact FzR.nlt | exact FzR.all (by first | rfl | (simp <;> fail) | (simp; omega)) | exact FzR.sl (by first | exact Nat.le_refl _ | (simp <;> fail) | (simp; omega)) | apply FzR.aggL | exact FzR.same _)) rfl; have hh''' := Cd.frz1 hh'' 2 rfl (by repeat' (first | exact FzL.nil | apply FzL.cons | exact FzR.nlt | exact FzR.all (by first | rfl | (simp <;> fail) | (simp; omega)) | exact FzR.sl (by first | exact Nat.le_refl _ | (simp <;> fail) | (simp; omega)) | apply FzR.aggL | exact FzR.same _)) rfl; exact Cd.drop hh''' rfl
theorem startH12 : startH c12 = h12 := by decide +kernel
set_option maxHeartbeats 16000000 in
theorem awake12_c : Cd Try.prog 15 [] (bo true) [] := by
  have cS := stF_c c12 (by decide)
  rw [startH12] at cS
  have c1 := apF_c c12 h12 0 1 ⟨3, 0, 0, false, [⟨2, 8, 0⟩]⟩ (okQ_of (by decide +kernel)) (okHl_of (by decide) (by decide) (by decide))
  have c2 := apF_c c12 h12b 1 1 ⟨3, 0, 0, false, [⟨1, 8, 5⟩]⟩ (okQ_of (by decide +kernel)) (okHl_of (by decide) (by decide) (by decide))
  rw [ap12b] at c1
  rw [ap12c] at c2
  have c3 := handles_c h12c (by decide)
  rw [hd12] at c3
  have c4 := ints_c [8] [8] (by decide)
  rw [decide_eq_true rfl] at c4
  have d1 : (h12.chans.map tCh).length = 2 := rfl
  have d2 : (h12.waits.map tWt).length = 2 := rfl
  have d3 : (h12.done.map tR).length = 2 := rfl
  have d4 : (h12b.done.map tR).length = 2 := rfl
  have d5 : (h12b.waits.map tWt).length = 2 := rfl
  have d6 : (h12c.done.map tR).length = 2 := rfl
  have d7 : (h12c.waits.map tWt).length = 2 := rfl
  have x1 : h12b.done[0]? = some ⟨1, 0, 14, 0⟩ := rfl
  have x2 : h12b.waits[0]? = some ⟨true, 0, 1, [⟨2, 8, 0⟩]⟩ := rfl
  have x3 : h12c.done[0]? = some ⟨1, 0, 0, 5⟩ := rfl
  have x4 : h12c.done[1]? = some ⟨1, 0, 0, 0⟩ := rfl
  have x5 : h12c.waits[0]? = some ⟨false, 0, 0, []⟩ := rfl
  have t1 : h12.ticket = 0 := rfl
  have t2 : h12b.ticket = 1 := rfl
  have t3 : h12c.ticket = 1 := rfl
  dsimp only [aHl, aRq] at c1 c2 c3
  rw [t1] at cS
  rw [t1, t2] at c1
  rw [t2, t3] at c2
  rw [t3] at c3
  generalize h12.chans = q1 at *
  generalize h12.waits = q2 at *
  generalize h12.done = q3 at *
  generalize h12b.chans = q4 at *
  generalize h12b.waits = q5 at *
  generalize h12b.done = q6 at *
  generalize h12c.chans = q7 at *
  generalize h12c.waits = q8 at *
  generalize h12c.done = q9 at *
  refine Cd.enter' Try.func15 rfl Try.ntmps15 rfl ?_
  repeat' (first | ((with_reducible refine kAL ?_); (first | refine A_as rfl rfl rfl rfl ?_ | (refine kL 522 rfl ?_; refine A_cl rfl rfl Try.func16 rfl (small12_c) ?_) | refine A_alloc rfl rfl 24 rfl inf24 (cs := [.t (.v (.int .i64 0)), .t (.v (.int .i64 0)), .t (.v (.int .i64 0)), .t (.v (.int .i64 0)), .t (.v (.int .i64 0)), .t (.v (.int .i64 0)), .t (.v (.int .i64 0)), .t (.v (.int .i64 0)), .t (.v (.int .i64 0)), .t (.v (.int .i64 0)), AV.nl]) rfl (.push qL qN) ?_ | refine A_store rfl rfl 24 _ _ rfl inf24 rfl rfl rfl rfl (Nat.le_of_ble_eq_true rfl) qN qN ?_ | refine A_load_agg rfl rfl 24 _ rfl ud24 rfl inf24 rfl rfl (us' := [_, _, _, _, _, _, _, _, _, _, _]) rfl rfl ?_ | refine A_load_agg rfl rfl 29 _ rfl ud29 rfl inf29 rfl rfl (us' := [_, _, _, _]) rfl rfl ?_ | (refine kL 1454 rfl ?_; refine A_build rfl rfl 45 _ rfl ud45 inf45 [(0, 1), (1, 1), (2, 1)] (by kernel_rfl) (zs := [.t (.v (.int .i64 0)), .t (.v (.int .i64 0)), .t (.v (.int .i64 0))]) rfl (.cons rfl (.cons rfl (.cons rfl .nil))) (cs := [_, _, _]) rfl ?_) | (refine kL 975 rfl ?_; refine A_lit rfl rfl 30 1 _ rfl ud30 inf45 (.cons rfl .nil) (els := [[_, _, _]]) rfl (by exact (rfl : _ = List.map tCs [⟨_, _, _⟩])) rfl (Nat.ne_of_beq_eq_false rfl) (Nat.le_of_ble_eq_true rfl) (Nat.le_of_ble_eq_true rfl) (.push qL qN) ?_) | (refine kL 1038 rfl ?_; refine A_build rfl rfl 32 _ rfl ud32 inf32 [(0, 1), (1, 1), (2, 1), (3, 1), (4, 1)] (by kernel_rfl) (zs := [.t (.v (.int .i64 0)), .t (.v (.int .i64 0)), .t (.v (.int .i64 0)), .t (.v (.bool false)), AV.nl]) rfl (.cons rfl (.cons rfl .nil)) (cs := [_, _, _, _, _]) rfl ?_) | (refine kL 330 rfl ?_; refine A_cl rfl rfl Try.func10 rfl (c2) ?_) | refine A_alloc rfl rfl 29 rfl inf29 (cs := [.t (.v (.int .i64 0)), AV.nl, AV.nl, AV.nl]) rfl (.push qL qN) ?_ | refine A_store rfl rfl 29 _ _ rfl inf29 rfl rfl rfl rfl (Nat.le_of_ble_eq_true rfl) qN qN ?_ | (refine kL 932 rfl ?_; (first | refine A_field rfl rfl 29 _ 3 rfl ud29 rfl inf27 (by decide) 3 rfl rfl ?_ | refine A_field rfl rfl 29 _ 2 rfl ud29 rfl inf26 (by decide) 2 rfl rfl ?_)) | refine A_load rfl rfl 27 _ rfl ud27 rfl rfl rfl rfl ?_ | (refine kL 12 rfl ?_; (first | refine A_len rfl rfl 27 _ rfl ud27 rfl ?_ | refine A_len rfl rfl 26 _ rfl ud26 rfl ?_)) | (refine kL 105 rfl ?_; (first | refine A_cmp (d := 21) rfl rfl (c := false) .neq 3 3 _ _ rfl rfl rfl (by exact congrArg some (decide_eq_false (by (try (dsimp only; fail_if_success done)); omega))) ?_ | refine A_cmp (d := 26) rfl rfl (c := false) .neq 3 3 _ _ rfl rfl rfl (by exact congrArg some (decide_eq_false (by (try (dsimp only; fail_if_success done)); omega))) ?_ | refine A_cmp (d := 32) rfl rfl (c := false) .neq 3 3 _ _ rfl rfl rfl (by exact congrArg some (decide_eq_false (by (try (dsimp only; fail_if_success done)); omega))) ?_ | refine A_cmp (d := 38) rfl rfl (c := false) .neq 3 3 _ _ rfl rfl rfl (by exact congrArg some (decide_eq_false (by (try (dsimp only; fail_if_success done)); omega))) ?_)) | refine A_mt rfl rfl rfl rfl ?_ | (refine kL 19 rfl ?_; (first | refine A_pkt rfl rfl _ _ _ rfl rfl rfl ?_ | refine A_pkf rfl rfl _ _ _ rfl rfl rfl ?_)) | refine A_load rfl rfl 26 _ rfl ud26 rfl rfl rfl rfl ?_ | (refine kL 870 rfl ?_; (first | refine A_idx rfl rfl 27 _ _ rfl ud27 inf50 (by decide) (by exact .inr rfl) rfl (by omega) _ (rfl : Int.toNat 0 = 0) (by exact map_get (by assumption)) rfl (cs' := [_, _, _, _]) rfl ?_ | refine A_idx rfl rfl 27 _ _ rfl ud27 inf50 (by decide) (by exact .inr rfl) rfl (by omega) _ (rfl : Int.toNat 1 = 1) (by exact map_get (by assumption)) rfl (cs' := [_, _, _, _]) rfl ?_)) | refine A_field rfl rfl 50 _ 2 rfl ud50 rfl inf48 (by decide) 2 rfl rfl ?_ | refine A_load_lp rfl rfl 48 _ rfl ud48 rfl rfl rfl ?_ | refine A_cmp (d := 45) rfl rfl .eql 48 48 _ _ rfl rfl rfl rfl ?_ | (refine kL 838 rfl ?_; refine A_idx rfl rfl 26 _ _ rfl ud26 inf43 (by decide) (by exact .inr rfl) rfl (by omega) _ (rfl : Int.toNat 0 = 0) (by exact map_get (by assumption)) rfl (cs' := [_, _, _, _]) rfl ?_) | refine A_field rfl rfl 43 _ 0 rfl ud43 rfl inf4 (by decide) 0 rfl rfl ?_ | refine A_load_lp rfl rfl 4 _ rfl ud4 rfl rfl rfl ?_ | refine A_load_lp_agg rfl rfl 50 _ rfl ud50 rfl inf50 rfl (us' := [_, _, _, _]) rfl rfl ?_ | (refine kL 1614 rfl ?_; (first | refine A_build rfl rfl 50 _ rfl ud50 inf50 [(0, 1), (1, 1), (2, 1), (3, 1)] (by kernel_rfl) (zs := [.t (.v (.int .i64 0)), .t (.v (.int .i64 0)), .t (.v (.int .i64 0)), .t (.v (.int .i64 0))]) rfl (.cons rfl (.cons rfl .nil)) (cs := [_, _, _, _]) rfl ?_ | refine A_build rfl rfl 50 _ rfl ud50 inf50 [(0, 1), (1, 1), (2, 1), (3, 1)] (by kernel_rfl) (zs := [.t (.v (.int .i64 0)), .t (.v (.int .i64 0)), .t (.v (.int .i64 0)), .t (.v (.int .i64 0))]) rfl (.cons rfl .nil) (cs := [_, _, _, _]) rfl ?_)) | (refine kL 1609 rfl ?_; (refine A_eqs rfl rfl 50 50 _ _ rfl rfl rfl (by kernel_rfl) (fun w => eqs50 9998 _ _ _ _ _ _ _ _ w) (by rfl) ?_)) | refine A_not rfl rfl _ _ rfl rfl ?_ | (refine kL 650 rfl ?_; refine A_cl rfl rfl Try.func20 rfl (c3) ?_) | (refine kL 719 rfl ?_; refine A_lit rfl rfl 22 1 _ rfl ud22 inf3 (.cons rfl .nil) (els := [[_]]) rfl (by exact (rfl : _ = List.map tI [_])) rfl (Nat.ne_of_beq_eq_false rfl) (Nat.le_of_ble_eq_true rfl) (Nat.le_of_ble_eq_true rfl) (.push qL qN) ?_) | (refine kL 682 rfl ?_; refine A_cl rfl rfl Try.func21 rfl (c4) ?_) | refine AL.nil ?_)) | ((with_reducible refine kRG ?_); (first | refine R_load_agg rfl rfl 24 _ rfl ud24 rfl inf24 rfl rfl (us' := [_, _, _, _, _, _, _, _, _, _, _]) rfl rfl ?_ | (refine kR 426 rfl ?_; (refine R_cl rfl rfl Try.func13 rfl (cS) ?_; refine ⟨0, _, _, _, rfl, qU, qU, qZ, ?_⟩)) | (refine kR 1454 rfl ?_; refine R_build rfl rfl 45 _ rfl ud45 inf45 [(0, 1), (1, 1), (2, 1)] (by kernel_rfl) (zs := [.t (.v (.int .i64 0)), .t (.v (.int .i64 0)), .t (.v (.int .i64 0))]) rfl (.cons rfl (.cons rfl .nil)) (cs := [_, _, _]) rfl ?_) | (refine kR 975 rfl ?_; refine R_lit (N := 1) rfl rfl 30 1 _ rfl ud30 inf45 (.cons rfl .nil) (els := [[_, _, _]]) rfl (by exact (rfl : _ = List.map tCs [⟨_, _, _⟩])) rfl (Nat.ne_of_beq_eq_false rfl) (Nat.le_of_ble_eq_true rfl) (Nat.le_of_ble_eq_true rfl) rfl qN ?_) | (refine kR 1038 rfl ?_; refine R_build rfl rfl 32 _ rfl ud32 inf32 [(0, 1), (1, 1), (2, 1), (3, 1), (4, 1)] (by kernel_rfl) (zs := [.t (.v (.int .i64 0)), .t (.v (.int .i64 0)), .t (.v (.int .i64 0)), .t (.v (.bool false)), AV.nl]) rfl (.cons rfl (.cons rfl .nil)) (cs := [_, _, _, _, _]) rfl ?_) | (refine kR 330 rfl ?_; (refine R_cl rfl rfl Try.func10 rfl (c1) ?_; refine ⟨0, _, _, _, rfl, qU, qU, qZ, ?_⟩)) | refine R_alloc (N := 2) rfl rfl 29 rfl inf29 (cs := [.t (.v (.int .i64 0)), AV.nl, AV.nl, AV.nl]) rfl rfl qN ?_ | refine R_store rfl rfl 29 _ _ rfl inf29 rfl rfl rfl rfl (Nat.le_of_ble_eq_true rfl) qN qN ?_ | refine RG.nil ⟨by kernel_rfl, ?_⟩)) | (with_reducible (first | refine wk0 ?_ | refine wk2 ?_ | refine wk9 ?_ | refine wkb ?_ | refine wkd ?_)) | refine kcf rfl ?_ | with_reducible refine AW.at_region _ ?_ | refine AW.at_draw 2 mixed 2 [[], [], [1], [], [3], [3, 4], [0, 1, 2, 3, 4, 5], [], [0, 1, 2, 3, 4, 5, 6, 7]] qR ?_)
  all_goals first | (exfalso; omega) | (exact Fin.q Try.results15 (.cons (.tmp rfl) .nil) [])
theorem hcF_c (h : DHall) (hh : okHl h) : Cd Try.prog 24 [aHl h] (.agg [i64 h.ticket, .t (.lst (h.chans.map tCh)), .t (.lst (h.waits.map tWt)), .t (.lst (h.done.map tR))]) [] := by
  have h0 := hcopy_c h hh
  have h0' := Cd.frz1 h0 0 rfl (by repeat' (first | exact FzL.nil | apply FzL.cons | exact FzR.nlt | exact FzR.all (by first | rfl | (simp <;> fail) | (simp; omega)) | exact FzR.sl (by first | exact Nat.le_refl _ | (simp <;> fail) | (simp; omega)) | apply FzR.aggL | exact FzR.same _)) rfl; have h0'' := Cd.frz1 h0' 1 rfl (by repeat' (first | exact FzL.nil | apply FzL.cons | exact FzR.nlt | exact FzR.all (by first | rfl | (simp <;> fail) | (simp; omega)) | exact FzR.sl (by first | exact Nat.le_refl _ | (simp <;> fail) | (simp; omega)) | apply FzR.aggL | exact FzR.same _)) rfl; exact Cd.drop h0'' rfl
set_option maxHeartbeats 16000000 in
theorem hallFinds_c (h g : DHall) (x : Int) (hx : sI x) (hh : okHl h) : Cd Try.prog 6 [aHl h, aHl g, i64 x] (bo true) [] := by
  have hm1 := hh.c
  have c1 := find_c h x hx hm1
  have c2 := rfind_c h x hx hm1
  have c30 := handles_c h hm1
  have c40 := rhandles_c h hm1
  have k1 := hall_c h g hh.hc
  have k2 := hall_same h hh.hc
  have s1 := hsame_c h g (by omega) (fun y hy => by have := hh.b y hy; omega) hh.w (by have := hh.d; omega)
  have s2 := hsame_c h h (by omega) (fun y hy => by have := hh.b y hy; omega) hh.w (by have := hh.d; omega)
  rw [decide_eq_true rfl] at s2
  have c5 := hcF_c h hh
  have cA := awake12_c
  have hb := handK_b h.chans h.chans.length
  have hf := @handH_fnd h
  have hl := handK_len h.chans h.chans.length
  have hfc := fun z hz => find_c h z hz hm1
  have i1 := ints_c (handH h) (handH h) (by unfold handH; omega)
  rw [decide_eq_true rfl] at i1
  change ∀ z ∈ handH h, _ at hb
  change (handH h).length ≤ _ at hl
  generalize handH h = H at *
  have hH : (H.map tI).length = H.length := List.length_map _
  have c3 : Cd Try.prog 20 [aHl h] (.t (.lst (H.map tI))) [] := by have c30' := Cd.frz1 c30 0 rfl (by repeat' (first | exact FzL.nil | apply FzL.cons | exact FzR.nlt | exact FzR.all (by first | rfl | (simp <;> fail) | (simp; omega)) | exact FzR.sl (by first | exact Nat.le_refl _ | (simp <;> fail) | (simp; omega)) | apply FzR.aggL | exact FzR.same _)) rfl; exact Cd.drop c30' rfl
  have c4 : Cd Try.prog 22 [aHl h] (.t (.lst (H.map tI))) [] := by have c40' := Cd.frz1 c40 0 rfl (by repeat' (first | exact FzL.nil | apply FzL.cons | exact FzR.nlt | exact FzR.all (by first | rfl | (simp <;> fail) | (simp; omega)) | exact FzR.sl (by first | exact Nat.le_refl _ | (simp <;> fail) | (simp; omega)) | apply FzR.aggL | exact FzR.same _)) rfl; exact Cd.drop c40' rfl
  generalize fndP h x = fp at *
  generalize fndOk h x = fo at *
  generalize decide (h = g) = eq at *
  dsimp only [aHl] at *
  refine Cd.enter' Try.func6 rfl Try.ntmps6 rfl ?_
  repeat' (first | ((with_reducible refine kAL ?_); (first | refine A_box rfl rfl 29 _ rfl rfl (.push qL qN) ?_ | refine A_as rfl rfl rfl rfl ?_ | refine A_load_agg rfl rfl 29 _ rfl ud29 rfl inf29 rfl rfl (us' := [_, _, _, _]) rfl rfl ?_ | (refine kL 0 rfl ?_; (first | refine A_mt rfl rfl rfl rfl ?_ | refine A_move rfl rfl _ (.inl rfl) (y := .tup _) rfl ?_)) | (refine kL 618 rfl ?_; refine A_cl rfl rfl Try.func19 rfl (c1) ?_) | (refine kL 18 rfl ?_; (first | refine A_extract rfl rfl _ 0 rfl rfl rfl ?_ | refine A_extract rfl rfl _ 1 rfl rfl rfl ?_)) | (refine kL 586 rfl ?_; refine A_cl rfl rfl Try.func18 rfl (c2) ?_) | (refine kL 650 rfl ?_; refine A_cl rfl rfl Try.func20 rfl (c3) ?_) | refine A_len rfl rfl 22 _ rfl ud22 rfl ?_ | refine AL.nil ?_)) | (with_reducible (first | refine wk0 ?_ | refine wk1 ?_ | refine wk2 ?_)) | with_reducible refine AW.at_region _ ?_)
  all_goals first | (exfalso; omega) | skip
  refine AW.loopP (fun (q : Nat) => q ≤ H.length) (fun (q : Nat) => (pu (pu (pu (pu (pu (pu (pu (pu (pu (fun _ => .any) 3 (.ptr 0 0)) 4 (.ptr 1 0)) 7 (i64 fp)) 8 (bo fo)) 9 (i64 fp)) 10 (bo fo)) 28 (.t (.lst (H.map tI)))) 29 (i64 (H.map tI).length)) 30 (i64 q))) (fun (q : Nat) => [.box 29 [i64 h.ticket, .ln (h.chans.map tCh), .ln (h.waits.map tWt), .ln (h.done.map tR)], .box 29 [i64 g.ticket, .ln (g.chans.map tCh), .ln (g.waits.map tWt), .ln (g.done.map tR)]]) (fun (q : Nat) => H.length - q) (0) ?_ ?_ ?_
  · exact Nat.zero_le _
  · exact Wk.cq 2
  · intro q hq
    by_cases hi : q < H.length
    · obtain ⟨z, hz⟩ : ∃ z, H[q]? = some z := ⟨_, List.getElem?_eq_getElem hi⟩
      have hzm := List.mem_of_getElem? hz
      have hzb := hb z hzm
      have cF := hfc z (by unfold sI; omega)
      rw [hf hzm] at cF
      by_cases hz0 : z = 0
      · subst hz0
        rw [decide_eq_false (by simp)] at cF
        repeat' (first | ((with_reducible refine kAL ?_); (first | refine A_as rfl rfl rfl rfl ?_ | refine A_load_agg rfl rfl 29 _ rfl ud29 rfl inf29 rfl rfl (us' := [_, _, _, _]) rfl rfl ?_ | (refine kL 0 rfl ?_; (first | refine A_mt rfl rfl rfl rfl ?_ | refine A_move rfl rfl _ (.inl rfl) (y := .tup _) rfl ?_)) | (refine kL 618 rfl ?_; refine A_cl rfl rfl Try.func19 rfl (cF) ?_) | (refine kL 18 rfl ?_; (first | refine A_extract rfl rfl _ 0 rfl rfl rfl ?_ | refine A_extract rfl rfl _ 1 rfl rfl rfl ?_)) | (refine kL 105 rfl ?_; (first | refine A_cmp (d := 31) rfl rfl (c := true) .lss 3 3 _ _ rfl rfl rfl (by exact congrArg some (decide_eq_true (by (try (dsimp only; fail_if_success done)); omega))) ?_ | refine A_cmp (d := 42) rfl rfl (c := false) .neq 3 3 _ _ rfl rfl rfl (by exact congrArg some (decide_eq_false (by (try (dsimp only; fail_if_success done)); omega))) ?_ | refine A_add rfl rfl 3 3 _ _ rfl rfl rfl (by exact wi) ?_)) | (refine kL 710 rfl ?_; refine A_idx rfl rfl 22 _ _ rfl ud22 inf3 (by decide) (by exact .inr rfl) rfl (by omega) _ (by with_reducible exact Int.toNat_natCast _) (by exact map_get (by assumption)) rfl (cs' := [_]) rfl ?_) | refine A_load_lp rfl rfl 3 _ rfl ud3 rfl rfl rfl ?_ | refine A_bne rfl rfl 4 4 _ _ rfl ud4 rfl rfl ?_ | refine AL.nil ?_)) | (with_reducible (first | refine wk0 ?_ | refine wk1 ?_ | refine wk2 ?_ | refine wk5 ?_ | refine wkd ?_)) | refine kct rfl ?_ | refine kcf rfl ?_ | with_reducible refine AW.at_region _ ?_)
        all_goals first | (exfalso; omega) | skip
        refine ⟨q + 1, by omega, by omega, ?_⟩
        exact Wk.cq 2
      · rw [decide_eq_true hz0] at cF
        repeat' (first | ((with_reducible refine kAL ?_); (first | refine A_as rfl rfl rfl rfl ?_ | refine A_load_agg rfl rfl 29 _ rfl ud29 rfl inf29 rfl rfl (us' := [_, _, _, _]) rfl rfl ?_ | (refine kL 0 rfl ?_; (first | refine A_mt rfl rfl rfl rfl ?_ | refine A_move rfl rfl _ (.inl rfl) (y := .tup _) rfl ?_)) | (refine kL 618 rfl ?_; refine A_cl rfl rfl Try.func19 rfl (cF) ?_) | (refine kL 18 rfl ?_; (first | refine A_extract rfl rfl _ 0 rfl rfl rfl ?_ | refine A_extract rfl rfl _ 1 rfl rfl rfl ?_)) | (refine kL 105 rfl ?_; (first | refine A_cmp (d := 31) rfl rfl (c := true) .lss 3 3 _ _ rfl rfl rfl (by exact congrArg some (decide_eq_true (by (try (dsimp only; fail_if_success done)); omega))) ?_ | refine A_cmp (d := 42) rfl rfl (c := true) .neq 3 3 _ _ rfl rfl rfl (by exact congrArg some (decide_eq_true (by (try (dsimp only; fail_if_success done)); omega))) ?_ | refine A_add rfl rfl 3 3 _ _ rfl rfl rfl (by exact wi) ?_)) | (refine kL 710 rfl ?_; refine A_idx rfl rfl 22 _ _ rfl ud22 inf3 (by decide) (by exact .inr rfl) rfl (by omega) _ (by with_reducible exact Int.toNat_natCast _) (by exact map_get (by assumption)) rfl (cs' := [_]) rfl ?_) | refine A_load_lp rfl rfl 3 _ rfl ud3 rfl rfl rfl ?_ | refine A_bne rfl rfl 4 4 _ _ rfl ud4 rfl rfl ?_ | refine AL.nil ?_)) | (with_reducible (first | refine wk0 ?_ | refine wk1 ?_ | refine wk2 ?_ | refine wk5 ?_ | refine wkd ?_)) | refine kct rfl ?_ | refine kcf rfl ?_ | with_reducible refine AW.at_region _ ?_)
        all_goals first | (exfalso; omega) | skip
        refine ⟨q + 1, by omega, by omega, ?_⟩
        exact Wk.cq 2
    · cases fo <;> cases eq
      all_goals
        repeat' (first | ((with_reducible refine kAL ?_); (first | refine A_cmp (d := 31) rfl rfl (c := false) .lss 3 3 _ _ rfl rfl rfl (by exact congrArg some (decide_eq_false (by (try (dsimp only; fail_if_success done)); omega))) ?_ | refine AL.nil ?_)) | ((with_reducible refine kRG ?_); (first | refine R_mt rfl rfl rfl rfl ?_ | refine R_cmp (d := 47) rfl rfl (c := true) .eql 3 3 _ _ rfl rfl rfl (by exact congrArg some (decide_eq_true (by (try (dsimp only; fail_if_success done)); omega))) ?_ | refine R_beq rfl rfl 4 4 _ _ rfl ud4 rfl rfl ?_ | (refine kR 19 rfl ?_; refine R_pkt rfl rfl _ _ _ rfl rfl rfl ?_) | refine R_load_agg rfl rfl 29 _ rfl ud29 rfl inf29 rfl rfl (us' := [_, _, _, _]) rfl rfl ?_ | (refine kR 650 rfl ?_; (refine R_cl rfl rfl Try.func20 rfl (c3) ?_; refine ⟨0, _, _, _, rfl, qU, qU, qZ, ?_⟩)) | (refine kR 714 rfl ?_; (refine R_cl rfl rfl Try.func22 rfl (c4) ?_; refine ⟨0, _, _, _, rfl, qU, qU, qZ, ?_⟩)) | (refine kR 682 rfl ?_; (refine R_cl rfl rfl Try.func21 rfl (i1) ?_; refine ⟨0, _, _, _, rfl, qU, qU, qZ, ?_⟩)) | (refine kR 746 rfl ?_; (first | (refine R_cl rfl rfl Try.func23 rfl (s1) ?_; refine ⟨0, _, _, _, rfl, qU, qU, qZ, ?_⟩) | (refine R_cl rfl rfl Try.func23 rfl (s2) ?_; refine ⟨0, _, _, _, rfl, qU, qU, qZ, ?_⟩))) | (refine kR 394 rfl ?_; (first | (refine R_cl rfl rfl Try.func12 rfl (k1) ?_; refine ⟨0, _, _, _, rfl, qU, qU, qZ, ?_⟩) | (refine R_cl rfl rfl Try.func12 rfl (k2) ?_; refine ⟨0, _, _, _, rfl, qU, qU, qZ, ?_⟩))) | (refine kR 778 rfl ?_; (refine R_cl rfl rfl Try.func24 rfl (c5) ?_; refine ⟨0, _, _, _, rfl, qU, qU, qZ, ?_⟩)) | (refine kR 490 rfl ?_; (refine R_cl rfl rfl Try.func15 rfl (cA) ?_; refine ⟨0, _, _, _, rfl, qU, qU, qZ, ?_⟩)) | refine R_as rfl rfl rfl rfl ?_ | refine RG.nil ⟨by kernel_rfl, ?_⟩)) | (with_reducible (first | refine wk0 ?_ | refine wk2 ?_ | refine wk4 ?_ | refine wk7 ?_ | refine wk9 ?_ | refine wkb ?_ | refine wkc ?_)) | refine kcf rfl ?_ | with_reducible refine AW.at_region _ ?_ | refine AW.at_draw 10 mixed 0 [[], [], [0, 1], [0, 1, 2], [0, 1, 2, 3], [0, 1, 2, 3], [0, 1, 2, 3, 4, 5], [0, 1, 2, 3, 4, 5, 6], [0, 1, 2, 3, 4, 5, 6, 7], [0, 1, 2, 3, 4, 5, 6, 7, 8], [0, 1, 2, 3, 4, 5, 6, 7, 8, 9], [0, 1, 2, 3, 4, 5, 6, 7, 8], [0, 1, 2, 3, 4, 5, 6, 7, 8, 9, 10, 11], [0, 1, 2, 3, 4, 5, 6, 7, 8, 9, 10, 11, 12], [0, 1, 2, 3, 4, 5, 6, 7, 8, 9, 10, 11, 12, 13], [0, 1, 2, 3, 4, 5, 6, 7, 8, 9, 10, 11, 12, 13, 14], [0, 1, 2, 3, 4, 5, 6, 7, 8, 9, 10, 11, 12, 13, 14, 15], [0, 1, 2, 3, 4, 5, 6, 7, 8, 9, 10, 11, 12, 13, 14, 15], [0, 1, 2, 3, 4, 5, 6, 7, 8, 9, 10, 11, 12, 13, 14, 15, 16, 17], [0, 1, 2, 3, 4, 5, 6, 7, 8, 9, 10, 11, 12, 13, 14, 15], [0, 1, 2, 3, 4, 5, 6, 7, 8, 9, 10, 11, 12, 13, 14, 15], [0, 1, 2, 3, 4, 5, 6, 7, 8, 9, 10, 11, 12, 13, 14, 15, 16, 17, 18, 19, 20], [0, 1, 2, 3, 4, 5, 6, 7, 8, 9, 10, 11, 12, 13, 14, 15, 16, 17, 18, 19, 20, 21], [0, 1, 2, 3, 4, 5, 6, 7, 8, 9, 10, 11, 12, 13, 14, 15, 16, 17, 18, 19, 20, 21, 22], [0, 1, 2, 3, 4, 5, 6, 7, 8, 9, 10, 11, 12, 13, 14, 15, 16, 17, 18, 19, 20, 21, 22, 23], [0, 1, 2, 3, 4, 5, 6, 7, 8, 9, 10, 11, 12, 13, 14, 15, 16, 17, 18, 19, 20, 21, 22, 23, 24], [0, 1, 2, 3, 4, 5, 6, 7, 8, 9, 10, 11, 12, 13, 14, 15, 16, 17, 18, 19, 20, 21, 22, 23, 24], [0, 1, 2, 3, 4, 5, 6, 7, 8, 9, 10, 11, 12, 13, 14, 15, 16, 17, 18, 19, 20, 21, 22, 23, 24, 25, 26], [0, 1, 2, 3, 4, 5, 6, 7, 8, 9, 10, 11, 12, 13, 14, 15, 16, 17, 18, 19, 20, 21, 22, 23, 24, 25, 26, 27], [0, 1, 2, 3, 4, 5, 6, 7, 8, 9, 10, 11, 12, 13, 14, 15, 16, 17, 18, 19, 20, 21, 22, 23, 24, 25, 26, 27, 28], [0, 1, 2, 3, 4, 5, 6, 7, 8, 9, 10, 11, 12, 13, 14, 15, 16, 17, 18, 19, 20, 21, 22, 23, 24, 25, 26, 27, 28, 29], [0, 1, 2, 3, 4, 5, 6, 7, 8, 9, 10, 11, 12, 13, 14, 15, 16, 17, 18, 19, 20, 21, 22, 23, 24, 25, 26, 27, 28, 29, 30], [0, 1, 2, 3, 4, 5, 6, 7, 8, 9, 10, 11, 12, 13, 14, 15, 16, 17, 18, 19, 20, 21, 22, 23, 24, 25, 26, 27, 28, 29], [0, 1, 2, 3, 4, 5, 6, 7, 8, 9, 10, 11, 12, 13, 14, 15, 16, 17, 18, 19, 20, 21, 22, 23, 24, 25, 26, 27, 28, 29, 30, 31, 32], [0, 1, 2, 3, 4, 5, 6, 7, 8, 9, 10, 11, 12, 13, 14, 15, 16, 17, 18, 19, 20, 21, 22, 23, 24, 25, 26, 27, 28, 29, 30, 31, 32, 33], [0, 1, 2, 3, 4, 5, 6, 7, 8, 9, 10, 11, 12, 13, 14, 15, 16, 17, 18, 19, 20, 21, 22, 23, 24, 25, 26, 27, 28, 29, 30, 31, 32, 33, 34], [0, 1, 2, 3, 4, 5, 6, 7, 8, 9, 10, 11, 12, 13, 14, 15, 16, 17, 18, 19, 20, 21, 22, 23, 24, 25, 26, 27, 28, 29, 30, 31, 32, 33, 34, 35], [0, 1, 2, 3, 4, 5, 6, 7, 8, 9, 10, 11, 12, 13, 14, 15, 16, 17, 18, 19, 20, 21, 22, 23, 24, 25, 26, 27, 28, 29, 30, 31, 32, 33, 34, 35, 36], [0, 1, 2, 3, 4, 5, 6, 7, 8, 9, 10, 11, 12, 13, 14, 15, 16, 17, 18, 19, 20, 21, 22, 23, 24, 25, 26, 27, 28, 29, 30, 31, 32, 33, 34, 35, 36, 37]] qR ?_)
        all_goals first | (exfalso; omega) | (exact Fin.q Try.results6 (.cons (.tmp rfl) .nil) [])
end Go.Proofs.Ytphcebioiipdpaa


/- What a small bulk tells of an argument. -/
namespace Go.Proofs.Ytphcebioiipdpaa
set_option linter.unusedVariables false
set_option linter.unusedSimpArgs false
set_option linter.unnecessarySimpa false
end Go.Proofs.Ytphcebioiipdpaa

