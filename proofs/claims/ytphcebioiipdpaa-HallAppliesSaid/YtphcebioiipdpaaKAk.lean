/- Joined: XTShutR, XTHallR, XTHallH, XTStartR, XTHallT, XTHallI, XTMove, XTRunP, XTLaw12. -/
import Derived.Test.YtphcebioiipdpaaKAi
import Derived.Test.YtphcebioiipdpaaKAe
import Derived.Test.YtphcebioiipdpaaKAj
namespace Go.Proofs.Ytphcebioiipdpaa
set_option linter.unusedVariables false
set_option linter.unusedSimpArgs false
set_option linter.unnecessarySimpa false
open Go.RowKit
set_option maxHeartbeats 32000000
attribute [local irreducible] AL AW RG Fin C Cd Cio thenQ blockQ retQ
set_option maxRecDepth 100000
attribute [local simp] putW_len cutW_len
theorem onSR_c (l : List DWait) (h : Int) (hl : okW l) : Cd Try.prog 101 [.ln (l.map tWt), i64 h] (.t (.lst ((onS l h).map tI))) [] := onR_c l h hl
theorem which_c (w : DWait) (h : Int) (hw : w.cases.length ≤ 1152921504606846976) (ho : w.on = true) : Cd Try.prog 102 [.agg [bo w.on, i64 w.ticket, i64 w.seq, .ln (w.cases.map tCs)], i64 h] (i64 (ixF (isH h) w.cases)) [] := by
  have cP := place_c w 0 h hw
  rw [plI_isH] at cP
  unfold plI at cP
  rw [if_pos ho] at cP
  generalize ixF (isH h) w.cases = z at cP
  refine Cd.enter' Try.func102 rfl Try.ntmps102 rfl ?_
  repeat' (first | ((with_reducible refine kAL ?_); (first | refine A_box rfl rfl 43 _ rfl rfl (.push qL qN) ?_ | refine A_as rfl rfl rfl rfl ?_ | refine A_load_agg rfl rfl 43 _ rfl ud43 rfl inf43 rfl rfl (us' := [_, _, _, _]) rfl rfl ?_ | refine A_mt rfl rfl rfl rfl ?_ | (refine kL 3722 rfl ?_; refine A_cl rfl rfl Try.func116 rfl (cP) ?_) | refine AL.nil ?_)) | with_reducible refine AW.at_region _ ?_ | (with_reducible (first | refine wk0 ?_ | refine wk2 ?_ | refine wk9 ?_ | refine wkb ?_)))
  all_goals first | (exfalso; omega) | (exact Fin.q Try.results102 (.cons (.tmp rfl) .nil) [])
theorem onS_on {l : List DWait} {h : Int} {z : Int} (hz : z ∈ onS l h) : ∃ (n : Nat) (w : DWait), z = n ∧ l[n]? = some w ∧ w.on = true := by
  have hm := isort_mem.1 hz
  have : ∀ k, k ≤ l.length → z ∈ onK l h k → ∃ (n : Nat) (w : DWait), z = n ∧ l[n]? = some w ∧ w.on = true := by
    intro k
    induction k with
    | zero => intro _ hm; cases hm
    | succ k ih =>
      intro hk hm
      obtain ⟨a, ha⟩ : ∃ a, l[k]? = some a := ⟨_, List.getElem?_eq_getElem (by omega)⟩
      rw [onK_next ha] at hm
      split at hm
      · rename_i hc
        rcases List.mem_append.1 hm with hm | hm
        · exact ih (by omega) hm
        · rw [List.mem_singleton] at hm
          simp only [Bool.and_eq_true] at hc
          exact ⟨k, a, hm, ha, hc.1⟩
      · exact ih (by omega) hm
  exact this l.length (Nat.le_refl _) hm
structure ShR where
  q : Nat
  k : Nat
  R : List DWait
  T : List DTold
def shR (g : SG) : AV := .agg [i64 g.c.gen, i64 g.c.cap, bo g.c.used, bo g.c.closed, .t (.lst (g.c.buf.map tI)), .t (.lst (g.l.map tWt)), i64 0, i64 0, i64 g.e, i64 0, .t (.lst (g.told.map tTd))]
set_option maxHeartbeats 16000000 in
theorem rshut_c (c : DChan) (h : Int) (l : List DWait) (hl : okW l) (hb : c.buf.length ≤ 17592186043904) : Cd Try.prog 72 [aC c, i64 h, .ln (l.map tWt)] (shR (shutG c h l)) [] := by
  have hl0 := hl.1
  have h1 : (l.map tWt).length = l.length := List.length_map _
  have hcc := ccopyR_c c (by omega)
  have cW := wcopyR_c l hl
  have cO := onSR_c l h hl
  obtain ⟨-, hSl, hSm⟩ := onS_b l h
  have hSo := @onS_on l h
  unfold shutG
  generalize onS l h = S at cO hSl hSm hSo
  have h2 : (S.map tI).length = S.length := List.length_map _
  obtain ⟨g, cap, used, closed, buf⟩ := c
  dsimp only [aC] at hcc hb ⊢
  by_cases hu : used = true ∧ closed = false
  · obtain ⟨rfl, rfl⟩ := hu
    simp only [Bool.not_false, Bool.and_self, if_true]
    have h0 : Cd Try.prog 72 [.agg [i64 g, i64 cap, bo true, bo false, .ln (buf.map tI)], i64 h, .ln (l.map tWt)] (.agg [i64 g, i64 cap, bo true, bo true, .sl 0 0 buf.length, .sl 1 0 l.length, i64 0, i64 0, i64 0, i64 0, .sl 2 0 S.length]) [.row 0 3 1 (buf.map tI), .row 0 43 4 ((S.foldl cutW l).map tWt), .row 0 124 5 ((S.map (shT l h)).map tTd)] := by
      refine Cd.enter' Try.func72 rfl Try.ntmps72 rfl ?_
      repeat' (first | ((with_reducible refine kAL ?_); (first | refine A_box rfl rfl 66 _ rfl rfl (.push qL qN) ?_ | refine A_alloc rfl rfl 97 rfl inf97 (cs := [.t (.v (.int .i64 0)), .t (.v (.int .i64 0)), .t (.v (.bool false)), .t (.v (.bool false)), AV.nl, AV.nl, .t (.v (.int .i64 0)), .t (.v (.int .i64 0)), .t (.v (.int .i64 0)), .t (.v (.int .i64 0)), AV.nl]) rfl (.push qL qN) ?_ | refine A_load_agg rfl rfl 66 _ rfl ud66 rfl inf66 rfl rfl (us' := [_, _, _, _, _]) rfl rfl ?_ | (refine kL 970 rfl ?_; refine A_cl rfl rfl Try.func30 rfl (hcc) ?_) | (refine kL 0 rfl ?_; (first | refine A_mt rfl rfl rfl rfl ?_ | refine A_move rfl rfl _ (.inl rfl) (y := .ln _) rfl ?_)) | (refine kL 938 rfl ?_; refine A_cl rfl rfl Try.func29 rfl (cW) ?_) | (refine kL 3118 rfl ?_; refine A_build rfl rfl 97 _ rfl ud97 inf97 [(0, 5), (5, 1), (6, 4), (10, 1)] (by kernel_rfl) (zs := [.t (.v (.int .i64 0)), .t (.v (.int .i64 0)), .t (.v (.bool false)), .t (.v (.bool false)), AV.nl, AV.nl, .t (.v (.int .i64 0)), .t (.v (.int .i64 0)), .t (.v (.int .i64 0)), .t (.v (.int .i64 0)), AV.nl]) rfl (.cons rfl (.cons rfl .nil)) (cs := [_, _, _, _, _, _, _, _, _, _, _]) rfl ?_) | refine A_store rfl rfl 97 _ _ rfl inf97 rfl rfl rfl rfl (Nat.le_of_ble_eq_true rfl) qN qN ?_ | (refine kL 2116 rfl ?_; (first | refine A_field rfl rfl 66 _ 2 rfl ud66 rfl inf4 (by decide) 2 rfl rfl ?_ | refine A_field rfl rfl 66 _ 3 rfl ud66 rfl inf4 (by decide) 3 rfl rfl ?_)) | refine A_load rfl rfl 4 _ rfl ud4 rfl rfl rfl rfl ?_ | refine A_not rfl rfl _ _ rfl rfl ?_ | (refine kL 19 rfl ?_; refine A_pkf rfl rfl _ _ _ rfl rfl rfl ?_) | refine A_field rfl rfl 97 _ 0 rfl ud97 rfl inf66 (by decide) 0 rfl rfl ?_ | refine A_store rfl rfl 4 _ _ rfl inf4 rfl rfl rfl rfl (Nat.le_of_ble_eq_true rfl) qN qN ?_ | (refine kL 3242 rfl ?_; refine A_cl rfl rfl Try.func101 rfl (cO) ?_) | refine A_len rfl rfl 22 _ rfl ud22 rfl ?_ | refine AL.nil ?_)) | (with_reducible (first | refine wk0 ?_ | refine wk1 ?_ | refine wk2 ?_ | refine wkd ?_)) | refine kcf rfl ?_ | with_reducible refine AW.at_region _ ?_)
      all_goals first | (exfalso; omega) | skip
      refine AW.wk (Wk.ownB 4 10 rfl rfl 124 5 (.push rfl rfl) rfl) ?_
      refine AW.loopP (fun (x : ShR) => x.q ≤ S.length ∧ x.R = (S.take x.q).foldl cutW l ∧ (∀ (n : Nat) (w : DWait), l[n]? = some w → x.R[n]? = some w ∨ x.R[n]? = some w0) ∧ x.R.length = l.length ∧ x.T = (S.take x.q).map (shT l h)) (fun (x : ShR) => (pu (pu (pu (pu (pu (pu (pu (fun _ => .any) 1 (i64 h)) 2 (.ln (l.map tWt))) 6 (.ptr 1 0)) 7 (.ptr 4 0)) 29 (.t (.lst (S.map tI)))) 30 (i64 (S.map tI).length)) 31 (i64 x.q))) (fun (x : ShR) => [.box 66 [i64 g, i64 cap, bo true, bo false, .ln (buf.map tI)], .box 97 [i64 0, i64 0, bo false, bo false, .nl, .nl, i64 0, i64 0, i64 0, i64 0, .nl], .row 0 3 1 (buf.map tI), .row 0 43 4 (x.R.map tWt), .box 97 [i64 g, i64 cap, bo true, bo true, .sl 2 0 buf.length, .sl 3 0 l.length, i64 0, i64 0, i64 0, i64 0, .sl 5 x.k x.q], .row x.k 124 5 (x.T.map tTd)]) (fun (x : ShR) => S.length - x.q) (⟨0, 0, l, []⟩) ?_ ?_ ?_
      · exact ⟨Nat.zero_le _, rfl, fun n w hw => .inl hw, rfl, rfl⟩
      · exact Wk.cq 6
      · rintro ⟨q, k, R, T⟩ ⟨h3, h4, h5, h6, h7⟩
        dsimp only at h3 h4 h5 h6 h7 ⊢
        have h8 : T.length = q := by rw [h7, List.length_map, List.length_take]; omega
        have h9 : (T.map tTd).length = q := by rw [List.length_map, h8]
        have h10 : (R.map tWt).length = l.length := by rw [List.length_map, h6]
        by_cases hq : q < S.length
        · obtain ⟨z, hz⟩ : ∃ z, S[q]? = some z := ⟨_, List.getElem?_eq_getElem hq⟩
          obtain ⟨n, w, rfl, hw, hon⟩ := hSo (List.mem_of_getElem? hz)
          have hn := get_lt hw
          have hsh : shT l h n = ⟨n, ⟨w.seq, ixF (isH h) w.cases, 9, 0⟩⟩ := by unfold shT; rw [Int.toNat_natCast, getD_of hw]
          have hcut : cutW R n = R.set n w0 := by
            rcases h5 n w hw with e | e
            · exact cutW_yes (cutOk_yes e hon)
            · rw [cutW_no (cutOk_off e rfl)]
              obtain ⟨hq', e'⟩ := List.getElem?_eq_some_iff.1 e
              rw [← e']; exact (List.set_getElem_self hq').symm
          have h5' : ∀ (n' : Nat) (w' : DWait), l[n']? = some w' → (R.set n w0)[n']? = some w' ∨ (R.set n w0)[n']? = some w0 := fun n' w' hw' => by
            by_cases e : n = n'
            · subst e; right; rw [List.getElem?_set_self (by omega)]
            · rw [List.getElem?_set_ne e]; exact h5 n' w' hw'
          have cI := which_c w h (by have := hl.at hw; omega) hon
          have cE := told_c l n (ixF (isH h) w.cases) 9 0 w hw
          generalize hix : ixF (isH h) w.cases = wh at *
          obtain ⟨y, hy⟩ : ∃ y, R[n]? = some y := ⟨_, List.getElem?_eq_getElem (by omega)⟩
          clear hSo h5
          obtain ⟨on, tk, sq, cs⟩ := w
          dsimp only at *
          repeat' (first | ((with_reducible refine kAL ?_); (first | (refine kL 1390 rfl ?_; (refine A_build (d := 52) rfl rfl 43 _ rfl ud43 inf43 [(0, 1), (1, 1), (2, 1), (3, 1)] (by kernel_rfl) (zs := [.t (.v (.bool false)), .t (.v (.int .i64 0)), .t (.v (.int .i64 0)), AV.nl]) rfl .nil (cs := [_, _, _, _]) rfl ?_; (try refine AL.wk (Wk.nz 52 rfl (by exact .aggL (.cons (by exact .same _) (.cons (by exact .same _) (.cons (by exact .same _) (.cons (by exact .nlt) .nil)))))) ?_))) | refine A_mt rfl rfl rfl rfl ?_ | refine A_field rfl rfl 97 _ 1 rfl ud97 rfl inf26 (by decide) 5 rfl rfl ?_ | (refine kL 105 rfl ?_; (first | refine A_cmp (d := 32) rfl rfl (c := true) .lss 3 3 _ _ rfl rfl rfl (by exact congrArg some (decide_eq_true (by (try (dsimp only; fail_if_success done)); omega))) ?_ | refine A_add rfl rfl 3 3 _ _ rfl rfl rfl (by exact wi) ?_)) | (refine kL 710 rfl ?_; refine A_idx rfl rfl 22 _ _ rfl ud22 inf3 (by decide) (by exact .inr rfl) rfl (by omega) _ (by with_reducible exact Int.toNat_natCast _) (by exact map_get (by assumption)) rfl (cs' := [_]) rfl ?_) | refine A_load_lp rfl rfl 3 _ rfl ud3 rfl rfl rfl ?_ | refine A_as rfl rfl rfl rfl ?_ | refine A_load rfl rfl 26 _ rfl ud26 rfl rfl rfl rfl ?_ | (refine kL 838 rfl ?_; refine A_idx_sl rfl rfl 26 _ _ rfl ud26 inf43 rfl rfl (by (simp; omega)) rfl (by omega) _ (by with_reducible exact Int.toNat_natCast _) (by omega) ?_) | (refine kL 1379 rfl ?_; refine A_store_rp rfl rfl 43 _ _ rfl inf43 (by decide) rfl rfl (by exact map_get (by assumption)) rfl rfl rfl (Nat.le_of_ble_eq_true rfl) (by exact map_set (f := tWt) (x := w0)) qN ?_) | refine AL.nil ?_)) | ((with_reducible refine kRG ?_); (first | refine R_field rfl rfl 97 _ 3 rfl ud97 rfl inf95 (by decide) 10 rfl rfl ?_ | refine R_load rfl rfl 95 _ rfl ud95 rfl rfl rfl rfl ?_ | (refine kR 0 rfl ?_; (first | refine R_mt rfl rfl rfl rfl ?_ | refine R_move rfl rfl _ (.inl rfl) (y := .ln _) rfl ?_)) | (refine kR 838 rfl ?_; refine R_idx rfl rfl 26 _ _ rfl ud26 inf43 (by decide) (by exact .inl rfl) rfl (by omega) _ (by with_reducible exact Int.toNat_natCast _) (by exact map_get (by assumption)) rfl (cs' := [_, _, _, _]) rfl ?_) | refine R_load_lp_agg rfl rfl 43 _ rfl ud43 rfl inf43 rfl (us' := [_, _, _, _]) rfl rfl ?_ | (refine kR 3274 rfl ?_; (refine R_cl rfl rfl Try.func102 rfl (cI) ?_; refine ⟨0, _, _, _, rfl, qU, qU, qZ, ?_⟩)) | (refine kR 3210 rfl ?_; (refine R_cl rfl rfl Try.func100 rfl (cE) ?_; refine ⟨0, _, _, _, rfl, qU, qU, qZ, ?_⟩)) | (refine kR 3055 rfl ?_; refine R_lit (N := 6) rfl rfl 95 1 _ rfl ud95 inf124 (.cons rfl .nil) (els := [[_, _, _, _, _]]) rfl (by exact (rfl : _ = List.map tTd [⟨n, ⟨sq, wh, 9, 0⟩⟩])) rfl (Nat.ne_of_beq_eq_false rfl) (Nat.le_of_ble_eq_true rfl) (Nat.le_of_ble_eq_true rfl) rfl qN ?_) | (refine kR 12 rfl ?_; refine R_append rfl rfl _ _ 95 rfl ud95 inf124 rfl rfl rfl (by (simp; omega)) (by exact .all rfl (by rfl)) qB qB (by exact app_one (f := tTd) (x := ⟨n, ⟨sq, wh, 9, 0⟩⟩) (by omega)) qN qS ?_) | refine R_store rfl rfl 95 _ _ rfl inf95 rfl rfl rfl rfl (Nat.le_of_ble_eq_true rfl) qN qN ?_ | refine RG.nil ⟨by kernel_rfl, ?_⟩)) | (with_reducible (first | refine wk0 ?_ | refine wk1 ?_ | refine wk2 ?_ | refine wk5 ?_ | refine wkd ?_)) | refine kct rfl ?_ | with_reducible refine AW.at_region _ ?_ | refine AW.at_draw 9 mixed 2 [[], [0], [], [], [], [], [4, 5], [4, 5, 6], [], [4, 5, 6, 7, 8], [2, 3, 4, 5, 6, 7, 8, 9], [2, 3, 4, 5, 6, 7, 8, 9, 10], [0, 1, 2, 3, 4, 5, 6, 7, 8, 9, 10, 11], [0, 1, 2, 3, 4, 5, 6, 7, 8, 9, 10, 11, 12], [0, 1, 2, 3, 4, 5, 6, 7, 8, 9, 10, 11, 12, 13]] qR ?_)
          all_goals first | (exfalso; omega) | skip
          refine ⟨⟨q + 1, k + 1, R.set n w0, T ++ [⟨n, ⟨sq, wh, 9, 0⟩⟩]⟩, ⟨by dsimp only; omega, by dsimp only; rw [List.take_add_one, hz, List.foldl_append, ← h4]; exact hcut.symm, h5', by dsimp only; rw [List.length_set, h6], by dsimp only; rw [List.take_add_one, hz, List.map_append, ← h7]; show _ = T ++ [shT l h n]; rw [hsh]⟩, by dsimp only; omega, ?_⟩
          exact Wk.cq 6
        · have e : q = S.length := by omega
          subst e
          rw [List.take_length] at h4 h7
          subst h4 h7
          repeat' (first | ((with_reducible refine kAL ?_); (first | refine A_store rfl rfl 97 _ _ rfl inf97 rfl rfl rfl rfl (Nat.le_of_ble_eq_true rfl) qN qN ?_ | refine A_load_agg rfl rfl 97 _ rfl ud97 rfl inf97 rfl rfl (us' := [_, _, _, _, _, _, _, _, _, _, _]) rfl rfl ?_ | refine A_cmp (d := 32) rfl rfl (c := false) .lss 3 3 _ _ rfl rfl rfl (by exact congrArg some (decide_eq_false (by (try (dsimp only; fail_if_success done)); omega))) ?_ | refine AL.nil ?_)) | (with_reducible (first | refine wk0 ?_ | refine wk2 ?_ | refine wk4 ?_ | refine wk7 ?_ | refine wk9 ?_ | refine wkb ?_ | refine wkc ?_)) | refine kcf rfl ?_ | with_reducible refine AW.at_region _ ?_)
          all_goals first | (exfalso; omega) | (exact Fin.q Try.results72 (.cons (.agg rfl rfl ud97 rfl inf97 (us := [_, _, _, _, _, _, _, _, _, _, _]) rfl rfl) .nil) [2, 3, 5])
    unfold shR
    have h11 : (S.foldl cutW l).length = l.length := by
      have hg : ∀ (S : List Int) (l : List DWait), (S.foldl cutW l).length = l.length := by
        intro S
        induction S with
        | nil => intro l; rfl
        | cons a S ih => intro l; rw [List.foldl_cons, ih, cutW_len]
      rw [hg]
    have h12 : (S.map (shT l h)).length = S.length := by simp
    dsimp only
    generalize S.foldl cutW l = LL at *
    generalize S.map (shT l h) = TT at *
    have h0' := Cd.frz1 h0 0 rfl (by repeat' (first | exact FzL.nil | apply FzL.cons | exact FzR.nlt | exact FzR.all (by first | rfl | (simp <;> fail) | (simp; omega)) | exact FzR.sl (by first | exact Nat.le_refl _ | (simp <;> fail) | (simp; omega)) | apply FzR.aggL | exact FzR.same _)) rfl; have h0'' := Cd.frz1 h0' 1 rfl (by repeat' (first | exact FzL.nil | apply FzL.cons | exact FzR.nlt | exact FzR.all (by first | rfl | (simp <;> fail) | (simp; omega)) | exact FzR.sl (by first | exact Nat.le_refl _ | (simp <;> fail) | (simp; omega)) | apply FzR.aggL | exact FzR.same _)) rfl; have h0''' := Cd.frz1 h0'' 2 rfl (by repeat' (first | exact FzL.nil | apply FzL.cons | exact FzR.nlt | exact FzR.all (by first | rfl | (simp <;> fail) | (simp; omega)) | exact FzR.sl (by first | exact Nat.le_refl _ | (simp <;> fail) | (simp; omega)) | apply FzR.aggL | exact FzR.same _)) rfl; exact Cd.drop h0''' rfl
  · have e : (used && !closed) = false := by cases used <;> cases closed <;> simp_all
    rw [e, if_neg (by simp)]
    have h0 : Cd Try.prog 72 [.agg [i64 g, i64 cap, bo used, bo closed, .ln (buf.map tI)], i64 h, .ln (l.map tWt)] (.agg [i64 g, i64 cap, bo used, bo closed, .sl 0 0 buf.length, .sl 1 0 l.length, i64 0, i64 0, i64 9, i64 0, .nl]) [.row 0 3 1 (buf.map tI), .row 0 43 4 (l.map tWt)] := by
      cases used <;> cases closed
      all_goals first | (exact absurd ⟨rfl, rfl⟩ hu) | skip
      all_goals
        refine Cd.enter' Try.func72 rfl Try.ntmps72 rfl ?_
        repeat' (first | ((with_reducible refine kAL ?_); (first | refine A_box rfl rfl 66 _ rfl rfl (.push qL qN) ?_ | refine A_alloc rfl rfl 97 rfl inf97 (cs := [.t (.v (.int .i64 0)), .t (.v (.int .i64 0)), .t (.v (.bool false)), .t (.v (.bool false)), AV.nl, AV.nl, .t (.v (.int .i64 0)), .t (.v (.int .i64 0)), .t (.v (.int .i64 0)), .t (.v (.int .i64 0)), AV.nl]) rfl (.push qL qN) ?_ | refine A_load_agg rfl rfl 66 _ rfl ud66 rfl inf66 rfl rfl (us' := [_, _, _, _, _]) rfl rfl ?_ | (refine kL 970 rfl ?_; refine A_cl rfl rfl Try.func30 rfl (hcc) ?_) | (refine kL 0 rfl ?_; (first | refine A_mt rfl rfl rfl rfl ?_ | refine A_move rfl rfl _ (.inl rfl) (y := .ln _) rfl ?_)) | (refine kL 938 rfl ?_; refine A_cl rfl rfl Try.func29 rfl (cW) ?_) | (refine kL 3118 rfl ?_; refine A_build rfl rfl 97 _ rfl ud97 inf97 [(0, 5), (5, 1), (6, 4), (10, 1)] (by kernel_rfl) (zs := [.t (.v (.int .i64 0)), .t (.v (.int .i64 0)), .t (.v (.bool false)), .t (.v (.bool false)), AV.nl, AV.nl, .t (.v (.int .i64 0)), .t (.v (.int .i64 0)), .t (.v (.int .i64 0)), .t (.v (.int .i64 0)), AV.nl]) rfl (.cons rfl (.cons rfl .nil)) (cs := [_, _, _, _, _, _, _, _, _, _, _]) rfl ?_) | refine A_store rfl rfl 97 _ _ rfl inf97 rfl rfl rfl rfl (Nat.le_of_ble_eq_true rfl) qN qN ?_ | (refine kL 2116 rfl ?_; (first | refine A_field rfl rfl 66 _ 2 rfl ud66 rfl inf4 (by decide) 2 rfl rfl ?_ | refine A_field rfl rfl 66 _ 3 rfl ud66 rfl inf4 (by decide) 3 rfl rfl ?_)) | refine A_load rfl rfl 4 _ rfl ud4 rfl rfl rfl rfl ?_ | refine A_not rfl rfl _ _ rfl rfl ?_ | (refine kL 19 rfl ?_; (first | refine A_pkt rfl rfl _ _ _ rfl rfl rfl ?_ | refine A_pkf rfl rfl _ _ _ rfl rfl rfl ?_)) | refine A_field rfl rfl 97 _ 2 rfl ud97 rfl inf50 (by decide) 6 rfl rfl ?_ | refine A_field rfl rfl 50 _ 2 rfl ud50 rfl inf48 (by decide) 2 rfl rfl ?_ | refine A_store rfl rfl 48 _ _ rfl inf48 rfl rfl rfl rfl (Nat.le_of_ble_eq_true rfl) qN qN ?_ | refine A_load_agg rfl rfl 97 _ rfl ud97 rfl inf97 rfl rfl (us' := [_, _, _, _, _, _, _, _, _, _, _]) rfl rfl ?_ | refine AL.nil ?_ | refine AL.skip rfl rfl ?_)) | (with_reducible (first | refine wk0 ?_ | refine wk2 ?_ | refine wk3 ?_ | refine wk9 ?_ | refine wkb ?_)) | refine kct rfl ?_ | with_reducible refine AW.at_region _ ?_)
        all_goals first | (exfalso; omega) | (exact Fin.q Try.results72 (.cons (.agg rfl rfl ud97 rfl inf97 (us := [_, _, _, _, _, _, _, _, _, _, _]) rfl rfl) .nil) [2, 3])
    unfold shR
    have h0' := Cd.frz1 h0 0 rfl (by repeat' (first | exact FzL.nil | apply FzL.cons | exact FzR.nlt | exact FzR.all (by first | rfl | (simp <;> fail) | (simp; omega)) | exact FzR.sl (by first | exact Nat.le_refl _ | (simp <;> fail) | (simp; omega)) | apply FzR.aggL | exact FzR.same _)) rfl; have h0'' := Cd.frz1 h0' 1 rfl (by repeat' (first | exact FzL.nil | apply FzL.cons | exact FzR.nlt | exact FzR.all (by first | rfl | (simp <;> fail) | (simp; omega)) | exact FzR.sl (by first | exact Nat.le_refl _ | (simp <;> fail) | (simp; omega)) | apply FzR.aggL | exact FzR.same _)) rfl; exact Cd.drop h0'' rfl
set_option maxHeartbeats 4000000 in
theorem ridle_c (c : DChan) (h : Int) (l : List DWait) (hl : okW l) : Cd Try.prog 71 [aC c, i64 h, .ln (l.map tWt)] (bo (c.used && c.closed && decide (c.buf = []) && decide (onS l h = []))) [] := by
  have cO := onSR_c l h hl
  have h2 : (onS l h).length ≤ l.length := (onS_b l h).2.1
  have h3 := hl.1
  generalize onS l h = S at cO h2 ⊢
  obtain ⟨g, cap, used, closed, buf⟩ := c
  have h1 : (buf.map tI).length = buf.length := List.length_map _
  have h4 : (S.map tI).length = S.length := List.length_map _
  dsimp only [aC]
  by_cases e1 : buf = []
  · subst e1
    by_cases e2 : S = []
    · subst e2
      cases used <;> cases closed
      all_goals
        refine Cd.enter' Try.func71 rfl Try.ntmps71 rfl ?_
        repeat' (first | ((with_reducible refine kAL ?_); (first | refine A_box rfl rfl 66 _ rfl rfl (.push qL qN) ?_ | refine A_as rfl rfl rfl rfl ?_ | (refine kL 2116 rfl ?_; (first | refine A_field rfl rfl 66 _ 2 rfl ud66 rfl inf4 (by decide) 2 rfl rfl ?_ | refine A_field rfl rfl 66 _ 3 rfl ud66 rfl inf4 (by decide) 3 rfl rfl ?_ | refine A_field rfl rfl 66 _ 4 rfl ud66 rfl inf22 (by decide) 4 rfl rfl ?_)) | refine A_load rfl rfl 4 _ rfl ud4 rfl rfl rfl rfl ?_ | (refine kL 0 rfl ?_; (first | refine A_mt rfl rfl rfl rfl ?_ | refine A_move rfl rfl _ (.inl rfl) (y := .ln _) rfl ?_)) | (refine kL 19 rfl ?_; (first | refine A_pkt rfl rfl _ _ _ rfl rfl rfl ?_ | refine A_pkf rfl rfl _ _ _ rfl rfl rfl ?_)) | refine A_load rfl rfl 22 _ rfl ud22 rfl rfl rfl rfl ?_ | refine A_len rfl rfl 22 _ rfl ud22 rfl ?_ | (refine kL 105 rfl ?_; (first | refine A_cmp (d := 17) rfl rfl .eql 3 3 _ _ rfl rfl rfl rfl ?_ | refine A_cmp (d := 24) rfl rfl .eql 3 3 _ _ rfl rfl rfl rfl ?_)) | (refine kL 3242 rfl ?_; refine A_cl rfl rfl Try.func101 rfl (cO) ?_) | refine AL.nil ?_ | refine AL.skip rfl rfl ?_)) | with_reducible refine AW.at_region _ ?_ | (with_reducible (first | refine wk0 ?_ | refine wk2 ?_ | refine wk9 ?_ | refine wkb ?_)))
        all_goals first | (exfalso; omega) | (exact Fin.q Try.results71 (.cons (.tmp rfl) .nil) [])
    · have : 0 < S.length := List.length_pos_iff.2 e2
      rw [decide_eq_false e2]
      cases used <;> cases closed
      all_goals
        refine Cd.enter' Try.func71 rfl Try.ntmps71 rfl ?_
        repeat' (first | ((with_reducible refine kAL ?_); (first | refine A_box rfl rfl 66 _ rfl rfl (.push qL qN) ?_ | refine A_as rfl rfl rfl rfl ?_ | (refine kL 2116 rfl ?_; (first | refine A_field rfl rfl 66 _ 2 rfl ud66 rfl inf4 (by decide) 2 rfl rfl ?_ | refine A_field rfl rfl 66 _ 3 rfl ud66 rfl inf4 (by decide) 3 rfl rfl ?_ | refine A_field rfl rfl 66 _ 4 rfl ud66 rfl inf22 (by decide) 4 rfl rfl ?_)) | refine A_load rfl rfl 4 _ rfl ud4 rfl rfl rfl rfl ?_ | (refine kL 0 rfl ?_; (first | refine A_mt rfl rfl rfl rfl ?_ | refine A_move rfl rfl _ (.inl rfl) (y := .ln _) rfl ?_)) | (refine kL 19 rfl ?_; (first | refine A_pkt rfl rfl _ _ _ rfl rfl rfl ?_ | refine A_pkf rfl rfl _ _ _ rfl rfl rfl ?_)) | refine A_load rfl rfl 22 _ rfl ud22 rfl rfl rfl rfl ?_ | refine A_len rfl rfl 22 _ rfl ud22 rfl ?_ | (refine kL 105 rfl ?_; (first | refine A_cmp (d := 24) rfl rfl (c := false) .eql 3 3 _ _ rfl rfl rfl (by exact congrArg some (decide_eq_false (by (try (dsimp only; fail_if_success done)); omega))) ?_ | refine A_cmp (d := 17) rfl rfl .eql 3 3 _ _ rfl rfl rfl rfl ?_)) | (refine kL 3242 rfl ?_; refine A_cl rfl rfl Try.func101 rfl (cO) ?_) | refine AL.nil ?_ | refine AL.skip rfl rfl ?_)) | with_reducible refine AW.at_region _ ?_ | (with_reducible (first | refine wk0 ?_ | refine wk2 ?_ | refine wk9 ?_ | refine wkb ?_)))
        all_goals first | (exfalso; omega) | (exact Fin.q Try.results71 (.cons (.tmp rfl) .nil) [])
  · have : 0 < buf.length := List.length_pos_iff.2 e1
    rw [decide_eq_false e1]
    cases used <;> cases closed
    all_goals
      refine Cd.enter' Try.func71 rfl Try.ntmps71 rfl ?_
      repeat' (first | ((with_reducible refine kAL ?_); (first | refine A_box rfl rfl 66 _ rfl rfl (.push qL qN) ?_ | refine A_as rfl rfl rfl rfl ?_ | (refine kL 2116 rfl ?_; (first | refine A_field rfl rfl 66 _ 2 rfl ud66 rfl inf4 (by decide) 2 rfl rfl ?_ | refine A_field rfl rfl 66 _ 3 rfl ud66 rfl inf4 (by decide) 3 rfl rfl ?_ | refine A_field rfl rfl 66 _ 4 rfl ud66 rfl inf22 (by decide) 4 rfl rfl ?_)) | refine A_load rfl rfl 4 _ rfl ud4 rfl rfl rfl rfl ?_ | refine A_mt rfl rfl rfl rfl ?_ | (refine kL 19 rfl ?_; (first | refine A_pkt rfl rfl _ _ _ rfl rfl rfl ?_ | refine A_pkf rfl rfl _ _ _ rfl rfl rfl ?_)) | refine A_load rfl rfl 22 _ rfl ud22 rfl rfl rfl rfl ?_ | refine A_len rfl rfl 22 _ rfl ud22 rfl ?_ | refine A_cmp (d := 17) rfl rfl (c := false) .eql 3 3 _ _ rfl rfl rfl (by exact congrArg some (decide_eq_false (by (try (dsimp only; fail_if_success done)); omega))) ?_ | refine AL.nil ?_ | refine AL.skip rfl rfl ?_)) | with_reducible refine AW.at_region _ ?_ | (with_reducible (first | refine wk0 ?_ | refine wk2 ?_ | refine wk9 ?_ | refine wkb ?_)))
      all_goals first | (exfalso; omega) | (exact Fin.q Try.results71 (.cons (.tmp rfl) .nil) [])
end Go.Proofs.Ytphcebioiipdpaa


namespace Go.Proofs.Ytphcebioiipdpaa
set_option linter.unusedVariables false
set_option linter.unusedSimpArgs false
set_option linter.unnecessarySimpa false
open Go.RowKit
set_option maxHeartbeats 32000000
attribute [local irreducible] AL AW RG Fin C Cd Cio thenQ blockQ retQ
set_option maxRecDepth 100000
structure HcR where
  q : Nat
  k : Nat
  O : List DChan
set_option maxHeartbeats 8000000 in
theorem rhcopy_c (h : DHall) (hh : okHl h) : Cd Try.prog 9 [aHl h] (.agg [i64 h.ticket, .sl 0 0 h.chans.length, .t (.lst (h.waits.map tWt)), .sl 1 0 h.done.length]) [.row 0 66 5 (h.chans.map tCh), .row 0 50 4 (h.done.map tR)] := by
  have h1 : (h.chans.map tCh).length = h.chans.length := List.length_map _
  have h1d : (h.done.map tR).length = h.done.length := List.length_map _
  have hc0 := hh.c
  have hd0 := hh.d
  have hw0 := wcopyR_c h.waits hh.w
  have hW : Cd Try.prog 29 [.ln (h.waits.map tWt)] (.t (.lst (h.waits.map tWt))) [] := by have hw0' := Cd.frz1 hw0 0 rfl (by repeat' (first | exact FzL.nil | apply FzL.cons | exact FzR.nlt | exact FzR.all (by first | rfl | (simp <;> fail) | (simp; omega)) | exact FzR.sl (by first | exact Nat.le_refl _ | (simp <;> fail) | (simp; omega)) | apply FzR.aggL | exact FzR.same _)) rfl; exact Cd.drop hw0' rfl
  refine Cd.enter' Try.func9 rfl Try.ntmps9 rfl ?_
  repeat' (first | ((with_reducible refine kAL ?_); (first | refine A_box rfl rfl 29 _ rfl rfl (.push qL qN) ?_ | refine A_alloc rfl rfl 29 rfl inf29 (cs := [.t (.v (.int .i64 0)), AV.nl, AV.nl, AV.nl]) rfl (.push qL qN) ?_ | refine A_field rfl rfl 29 _ 1 rfl ud29 rfl inf25 (by decide) 1 rfl rfl ?_ | refine A_load rfl rfl 25 _ rfl ud25 rfl rfl rfl rfl ?_ | refine A_len rfl rfl 25 _ rfl ud25 rfl ?_ | refine A_mt rfl rfl rfl rfl ?_ | refine AL.nil ?_)) | ((with_reducible refine kRG ?_); (first | (refine kR 932 rfl ?_; (first | refine R_field rfl rfl 29 _ 0 rfl ud29 rfl inf3 (by decide) 0 rfl rfl ?_ | refine R_field rfl rfl 29 _ 2 rfl ud29 rfl inf26 (by decide) 2 rfl rfl ?_ | refine R_field rfl rfl 29 _ 3 rfl ud29 rfl inf27 (by decide) 3 rfl rfl ?_)) | refine R_load rfl rfl 3 _ rfl ud3 rfl rfl rfl rfl ?_ | refine R_load rfl rfl 26 _ rfl ud26 rfl rfl rfl rfl ?_ | (refine kR 938 rfl ?_; (refine R_cl rfl rfl Try.func29 rfl (hW) ?_; refine ⟨0, _, _, _, rfl, qU, qU, qZ, ?_⟩)) | (refine kR 879 rfl ?_; refine R_lit0 rfl rfl 27 rfl ud27 inf50 ?_) | refine R_load rfl rfl 27 _ rfl ud27 rfl rfl rfl rfl ?_ | (refine kR 12 rfl ?_; (refine R_append_nl (N := 2) rfl rfl _ _ 27 rfl ud27 inf50 rfl rfl (by exact .ln (by exact each_map (fun _ => rfl))) qB qB (by ((try simp only [List.take_zero, List.take_succ_cons, List.drop_zero, List.drop_succ_cons, List.nil_append, List.cons_append, List.append_nil, List.length_cons, List.length_nil, List.set_cons_zero, List.set_cons_succ, List.map_cons, List.map_nil, List.take_nil, List.drop_nil, Nat.zero_add, Nat.add_zero, Nat.reduceAdd, Nat.reduceSub]); rfl)) rfl qN qS ?_)) | (refine kR 942 rfl ?_; refine R_build rfl rfl 29 _ rfl ud29 inf29 [(0, 1), (1, 1), (2, 1), (3, 1)] (by kernel_rfl) (zs := [.t (.v (.int .i64 0)), AV.nl, AV.nl, AV.nl]) rfl (.cons rfl (.cons rfl (.cons rfl .nil))) (cs := [_, _, _, _]) rfl ?_) | refine R_alloc (N := 3) rfl rfl 29 rfl inf29 (cs := [.t (.v (.int .i64 0)), AV.nl, AV.nl, AV.nl]) rfl rfl qN ?_ | refine R_store rfl rfl 29 _ _ rfl inf29 rfl rfl rfl rfl (Nat.le_of_ble_eq_true rfl) qN qN ?_ | refine RG.nil ⟨by kernel_rfl, ?_⟩)) | (with_reducible (first | refine wk0 ?_ | refine wk1 ?_ | refine wk2 ?_)) | with_reducible refine AW.at_region _ ?_ | refine AW.at_draw 1 mixed 2 [[], [0], [], [2], [2, 3], [], [], [6], [2, 3, 4, 5, 6, 7], [0, 1, 2, 3, 4, 5, 6, 7, 8], [], [0, 1, 2, 3, 4, 5, 6, 7, 8, 9, 10]] qR ?_)
  all_goals first | (exfalso; omega) | skip
  refine AW.wk (Wk.ownB 3 1 rfl rfl 66 5 (.push rfl rfl) rfl) ?_
  refine AW.loopP (fun (x : HcR) => x.q ≤ h.chans.length ∧ x.O = h.chans.take x.q) (fun (x : HcR) => (pu (pu (pu (pu (pu (pu (fun _ => .any) 1 (.ptr 0 0)) 2 (.ptr 1 0)) 3 (.ptr 3 0)) 17 (.ln (h.chans.map tCh))) 18 (i64 (h.chans.map tCh).length)) 19 (i64 x.q))) (fun (x : HcR) => [.box 29 [i64 h.ticket, .ln (h.chans.map tCh), .ln (h.waits.map tWt), .ln (h.done.map tR)], .box 29 [i64 0, .nl, .nl, .nl], .row 0 50 4 (h.done.map tR), .box 29 [i64 h.ticket, .sl 4 x.k x.q, .t (.lst (h.waits.map tWt)), .sl 2 0 h.done.length], .row x.k 66 5 (x.O.map tCh)]) (fun (x : HcR) => h.chans.length - x.q) (⟨0, 0, []⟩) ?_ ?_ ?_
  · exact ⟨Nat.zero_le _, rfl⟩
  · exact Wk.cq 5
  · rintro ⟨q, k, O⟩ ⟨h2, h3⟩
    dsimp only at h2 h3 ⊢
    have h6 : O.length = q := by rw [h3, List.length_take]; omega
    have h4 : (O.map tCh).length = q := by rw [List.length_map, h6]
    by_cases hq : q < h.chans.length
    · obtain ⟨⟨g, cap, used, closed, buf⟩, hc⟩ : ∃ c, h.chans[q]? = some c := ⟨_, List.getElem?_eq_getElem hq⟩
      have hb := hh.b _ (List.mem_of_getElem? hc)
      have cC0 := ccopyR_c ⟨g, cap, used, closed, buf⟩ (by dsimp only at hb ⊢; omega)
      dsimp only [aC] at cC0
      have cC : Cd Try.prog 30 [.agg [i64 g, i64 cap, bo used, bo closed, .ln (buf.map tI)]] (.agg [i64 g, i64 cap, bo used, bo closed, .t (.lst (buf.map tI))]) [] := by have cC0' := Cd.frz1 cC0 0 rfl (by repeat' (first | exact FzL.nil | apply FzL.cons | exact FzR.nlt | exact FzR.all (by first | rfl | (simp <;> fail) | (simp; omega)) | exact FzR.sl (by first | exact Nat.le_refl _ | (simp <;> fail) | (simp; omega)) | apply FzR.aggL | exact FzR.same _)) rfl; exact Cd.drop cC0' rfl
      repeat' (first | ((with_reducible refine kAL ?_); (first | refine A_mt rfl rfl rfl rfl ?_ | (refine kL 105 rfl ?_; (first | refine A_cmp (d := 20) rfl rfl (c := true) .lss 3 3 _ _ rfl rfl rfl (by exact congrArg some (decide_eq_true (by (try (dsimp only; fail_if_success done)); omega))) ?_ | refine A_add rfl rfl 3 3 _ _ rfl rfl rfl (by exact wi) ?_)) | (refine kL 806 rfl ?_; refine A_idx rfl rfl 25 _ _ rfl ud25 inf66 (by decide) (by exact .inl rfl) rfl (by omega) _ (by with_reducible exact Int.toNat_natCast _) (by exact map_get (by assumption)) rfl (cs' := [_, _, _, _, _]) rfl ?_) | refine A_load_lp_agg rfl rfl 66 _ rfl ud66 rfl inf66 rfl (us' := [_, _, _, _, _]) rfl rfl ?_ | refine A_alloc rfl rfl 66 rfl inf66 (cs := [.t (.v (.int .i64 0)), .t (.v (.int .i64 0)), .t (.v (.bool false)), .t (.v (.bool false)), AV.nl]) rfl (.push qL qN) ?_ | refine A_store rfl rfl 66 _ _ rfl inf66 rfl rfl rfl rfl (Nat.le_of_ble_eq_true rfl) qN qN ?_ | refine AL.nil ?_)) | ((with_reducible refine kRG ?_); (first | refine R_field rfl rfl 29 _ 1 rfl ud29 rfl inf25 (by decide) 1 rfl rfl ?_ | (refine kR 12 rfl ?_; refine R_append rfl rfl _ _ 25 rfl ud25 inf66 rfl rfl rfl (by (simp; omega)) (by exact .all rfl (by rfl)) qB qB (by exact app_one (f := tCh) (x := ⟨g, cap, used, closed, buf⟩) (by omega)) qN qS ?_) | refine R_load rfl rfl 25 _ rfl ud25 rfl rfl rfl rfl ?_ | refine R_load_agg rfl rfl 66 _ rfl ud66 rfl inf66 rfl rfl (us' := [_, _, _, _, _]) rfl rfl ?_ | (refine kR 970 rfl ?_; (refine R_cl rfl rfl Try.func30 rfl (cC) ?_; refine ⟨0, _, _, _, rfl, qU, qU, qZ, ?_⟩)) | (refine kR 815 rfl ?_; refine R_lit (N := 6) rfl rfl 25 1 _ rfl ud25 inf66 (.cons rfl .nil) (els := [[_, _, _, _, _]]) rfl (by exact (rfl : _ = List.map tCh [⟨g, cap, used, closed, buf⟩])) rfl (Nat.ne_of_beq_eq_false rfl) (Nat.le_of_ble_eq_true rfl) (Nat.le_of_ble_eq_true rfl) rfl qN ?_) | refine R_store rfl rfl 25 _ _ rfl inf25 rfl rfl rfl rfl (Nat.le_of_ble_eq_true rfl) qN qN ?_ | refine RG.nil ⟨by kernel_rfl, ?_⟩)) | (with_reducible (first | refine wk0 ?_ | refine wk1 ?_ | refine wk2 ?_ | refine wk5 ?_ | refine wkd ?_)) | refine kct rfl ?_ | with_reducible refine AW.at_region _ ?_ | refine AW.at_draw 5 mixed 2 [[], [0], [], [2], [2, 3], [0, 1, 2, 3, 4], [0, 1, 2, 3, 4, 5], [0, 1, 2, 3, 4, 5, 6]] qR ?_)
      all_goals first | (exfalso; omega) | skip
      refine ⟨⟨q + 1, k + 1, O ++ [⟨g, cap, used, closed, buf⟩]⟩, ⟨by dsimp only; omega, by dsimp only; rw [List.take_add_one, hc, h3]; rfl⟩, by dsimp only; omega, ?_⟩
      exact Wk.cq 5
    · have e : q = h.chans.length := by omega
      subst e
      rw [List.take_length] at h3
      subst h3
      repeat' (first | ((with_reducible refine kAL ?_); (first | refine A_cmp (d := 20) rfl rfl (c := false) .lss 3 3 _ _ rfl rfl rfl (by exact congrArg some (decide_eq_false (by (try (dsimp only; fail_if_success done)); omega))) ?_ | refine A_load_agg rfl rfl 29 _ rfl ud29 rfl inf29 rfl rfl (us' := [_, _, _, _]) rfl rfl ?_ | refine A_store rfl rfl 29 _ _ rfl inf29 rfl rfl rfl rfl (Nat.le_of_ble_eq_true rfl) qN qN ?_ | refine AL.nil ?_)) | (with_reducible (first | refine wk0 ?_ | refine wk2 ?_ | refine wk4 ?_ | refine wk7 ?_ | refine wk9 ?_ | refine wkb ?_ | refine wkc ?_)) | refine kcf rfl ?_ | with_reducible refine AW.at_region _ ?_)
      all_goals first | (exfalso; omega) | (exact Fin.q Try.results9 (.cons (.agg rfl rfl ud29 rfl inf29 (us := [_, _, _, _]) rfl rfl) .nil) [4, 2])
set_option maxHeartbeats 8000000 in
theorem rfind_c (h : DHall) (x : Int) (hx : sI x) (h0 : h.chans.length ≤ 2932031007402) : Cd Try.prog 18 [aHl h, i64 x] (.tup [i64 (fndP h x), bo (fndOk h x)]) [] := by
  have h1 : (h.chans.map tCh).length = h.chans.length := List.length_map _
  have cP := hplaceR_c x hx
  obtain ⟨n, hn⟩ := plP_nat x
  cases hp : plOk x
  · have e := fnd_bad (h := h) hp
    rw [e, fnd_no e]
    rw [hp, hn] at cP
    refine Cd.enter' Try.func18 rfl Try.ntmps18 rfl ?_
    repeat' (first | ((with_reducible refine kAL ?_); (first | refine A_box rfl rfl 29 _ rfl rfl (.push qL qN) ?_ | refine A_as rfl rfl rfl rfl ?_ | (refine kL 0 rfl ?_; (first | refine A_mt rfl rfl rfl rfl ?_ | refine A_move rfl rfl _ (.inl rfl) (y := .tup _) rfl ?_)) | (refine kL 1322 rfl ?_; refine A_cl rfl rfl Try.func41 rfl (cP) ?_) | (refine kL 18 rfl ?_; (first | refine A_extract rfl rfl _ 0 rfl rfl rfl ?_ | refine A_extract rfl rfl _ 1 rfl rfl rfl ?_ | refine A_extract rfl rfl _ 2 rfl rfl rfl ?_)) | (refine kL 19 rfl ?_; refine A_pkf rfl rfl _ _ _ rfl rfl rfl ?_) | refine AL.nil ?_ | refine AL.skip rfl rfl ?_)) | with_reducible refine AW.at_region _ ?_ | (with_reducible (first | refine wk0 ?_ | refine wk2 ?_ | refine wk9 ?_ | refine wkb ?_ | refine wkd ?_)) | refine kcf rfl ?_)
    all_goals first | (exfalso; omega) | (exact Fin.q Try.results18 (.cons (.tmp rfl) (.cons (.tmp rfl) .nil)) [])
  · by_cases hl : n < h.chans.length
    · obtain ⟨⟨g, cap, used, closed, buf⟩, hc⟩ : ∃ c, h.chans[n]? = some c := ⟨_, List.getElem?_eq_getElem hl⟩
      have e := fnd_at hp hn hc
      dsimp only at e
      rw [e.1, e.2]
      rw [hp, hn] at cP
      generalize plG x = pg at cP
      by_cases hg : g = pg
      · subst hg
        rw [decide_eq_true rfl]
        cases used
        all_goals
          refine Cd.enter' Try.func18 rfl Try.ntmps18 rfl ?_
          repeat' (first | ((with_reducible refine kAL ?_); (first | refine A_box rfl rfl 29 _ rfl rfl (.push qL qN) ?_ | refine A_as rfl rfl rfl rfl ?_ | (refine kL 0 rfl ?_; (first | refine A_mt rfl rfl rfl rfl ?_ | refine A_move rfl rfl _ (.inl rfl) (y := .tup _) rfl ?_)) | (refine kL 1322 rfl ?_; refine A_cl rfl rfl Try.func41 rfl (cP) ?_) | (refine kL 18 rfl ?_; (first | refine A_extract rfl rfl _ 0 rfl rfl rfl ?_ | refine A_extract rfl rfl _ 1 rfl rfl rfl ?_ | refine A_extract rfl rfl _ 2 rfl rfl rfl ?_)) | refine A_field rfl rfl 29 _ 1 rfl ud29 rfl inf25 (by decide) 1 rfl rfl ?_ | refine A_load rfl rfl 25 _ rfl ud25 rfl rfl rfl rfl ?_ | refine A_len rfl rfl 25 _ rfl ud25 rfl ?_ | (refine kL 105 rfl ?_; (first | refine A_cmp (d := 21) rfl rfl (c := true) .lss 3 3 _ _ rfl rfl rfl (by exact congrArg some (decide_eq_true (by (try (dsimp only; fail_if_success done)); omega))) ?_ | refine A_cmp (d := 39) rfl rfl .eql 3 3 _ _ rfl rfl rfl rfl ?_)) | (refine kL 19 rfl ?_; (first | refine A_pkt rfl rfl _ _ _ rfl rfl rfl ?_ | refine A_pkf rfl rfl _ _ _ rfl rfl rfl ?_)) | (refine kL 806 rfl ?_; refine A_idx rfl rfl 25 _ _ rfl ud25 inf66 (by decide) (by exact .inl rfl) rfl (by omega) _ (by with_reducible exact Int.toNat_natCast _) (by exact map_get (by assumption)) rfl (cs' := [_, _, _, _, _]) rfl ?_) | (refine kL 2116 rfl ?_; (first | refine A_field rfl rfl 66 _ 2 rfl ud66 rfl inf4 (by decide) 2 rfl rfl ?_ | refine A_field rfl rfl 66 _ 0 rfl ud66 rfl inf3 (by decide) 0 rfl rfl ?_)) | refine A_load_lp rfl rfl 4 _ rfl ud4 rfl rfl rfl ?_ | refine A_load_lp rfl rfl 3 _ rfl ud3 rfl rfl rfl ?_ | refine AL.nil ?_ | refine AL.skip rfl rfl ?_)) | with_reducible refine AW.at_region _ ?_ | (with_reducible (first | refine wk0 ?_ | refine wk2 ?_ | refine wk3 ?_ | refine wk9 ?_ | refine wkb ?_ | refine wkd ?_)) | refine kcf rfl ?_ | refine kcp rfl (fun hc => ?_) (fun hc => ?_))
          all_goals first | (exfalso; omega) | (exfalso; exact hc rfl) | (exact Fin.q Try.results18 (.cons (.tmp rfl) (.cons (.tmp rfl) .nil)) [])
      · rw [decide_eq_false hg]
        cases used
        all_goals
          refine Cd.enter' Try.func18 rfl Try.ntmps18 rfl ?_
          repeat' (first | ((with_reducible refine kAL ?_); (first | refine A_box rfl rfl 29 _ rfl rfl (.push qL qN) ?_ | refine A_as rfl rfl rfl rfl ?_ | (refine kL 0 rfl ?_; (first | refine A_mt rfl rfl rfl rfl ?_ | refine A_move rfl rfl _ (.inl rfl) (y := .tup _) rfl ?_)) | (refine kL 1322 rfl ?_; refine A_cl rfl rfl Try.func41 rfl (cP) ?_) | (refine kL 18 rfl ?_; (first | refine A_extract rfl rfl _ 0 rfl rfl rfl ?_ | refine A_extract rfl rfl _ 1 rfl rfl rfl ?_ | refine A_extract rfl rfl _ 2 rfl rfl rfl ?_)) | refine A_field rfl rfl 29 _ 1 rfl ud29 rfl inf25 (by decide) 1 rfl rfl ?_ | refine A_load rfl rfl 25 _ rfl ud25 rfl rfl rfl rfl ?_ | refine A_len rfl rfl 25 _ rfl ud25 rfl ?_ | (refine kL 105 rfl ?_; (first | refine A_cmp (d := 21) rfl rfl (c := true) .lss 3 3 _ _ rfl rfl rfl (by exact congrArg some (decide_eq_true (by (try (dsimp only; fail_if_success done)); omega))) ?_ | refine A_cmp (d := 39) rfl rfl (c := false) .eql 3 3 _ _ rfl rfl rfl (by exact congrArg some (decide_eq_false (by (try (dsimp only; fail_if_success done)); omega))) ?_)) | (refine kL 19 rfl ?_; (first | refine A_pkt rfl rfl _ _ _ rfl rfl rfl ?_ | refine A_pkf rfl rfl _ _ _ rfl rfl rfl ?_)) | (refine kL 806 rfl ?_; refine A_idx rfl rfl 25 _ _ rfl ud25 inf66 (by decide) (by exact .inl rfl) rfl (by omega) _ (by with_reducible exact Int.toNat_natCast _) (by exact map_get (by assumption)) rfl (cs' := [_, _, _, _, _]) rfl ?_) | (refine kL 2116 rfl ?_; (first | refine A_field rfl rfl 66 _ 2 rfl ud66 rfl inf4 (by decide) 2 rfl rfl ?_ | refine A_field rfl rfl 66 _ 0 rfl ud66 rfl inf3 (by decide) 0 rfl rfl ?_)) | refine A_load_lp rfl rfl 4 _ rfl ud4 rfl rfl rfl ?_ | refine A_load_lp rfl rfl 3 _ rfl ud3 rfl rfl rfl ?_ | refine AL.nil ?_ | refine AL.skip rfl rfl ?_)) | with_reducible refine AW.at_region _ ?_ | (with_reducible (first | refine wk0 ?_ | refine wk2 ?_ | refine wk9 ?_ | refine wkb ?_ | refine wkd ?_)) | refine kcf rfl ?_)
          all_goals first | (exfalso; omega) | (exfalso; exact hc rfl) | (exact Fin.q Try.results18 (.cons (.tmp rfl) (.cons (.tmp rfl) .nil)) [])
    · have e := fnd_out hn hl
      rw [e, fnd_no e]
      rw [hp, hn] at cP
      refine Cd.enter' Try.func18 rfl Try.ntmps18 rfl ?_
      repeat' (first | ((with_reducible refine kAL ?_); (first | refine A_box rfl rfl 29 _ rfl rfl (.push qL qN) ?_ | refine A_as rfl rfl rfl rfl ?_ | (refine kL 0 rfl ?_; (first | refine A_mt rfl rfl rfl rfl ?_ | refine A_move rfl rfl _ (.inl rfl) (y := .tup _) rfl ?_)) | (refine kL 1322 rfl ?_; refine A_cl rfl rfl Try.func41 rfl (cP) ?_) | (refine kL 18 rfl ?_; (first | refine A_extract rfl rfl _ 0 rfl rfl rfl ?_ | refine A_extract rfl rfl _ 1 rfl rfl rfl ?_ | refine A_extract rfl rfl _ 2 rfl rfl rfl ?_)) | refine A_field rfl rfl 29 _ 1 rfl ud29 rfl inf25 (by decide) 1 rfl rfl ?_ | refine A_load rfl rfl 25 _ rfl ud25 rfl rfl rfl rfl ?_ | refine A_len rfl rfl 25 _ rfl ud25 rfl ?_ | refine A_cmp (d := 21) rfl rfl (c := false) .lss 3 3 _ _ rfl rfl rfl (by exact congrArg some (decide_eq_false (by (try (dsimp only; fail_if_success done)); omega))) ?_ | (refine kL 19 rfl ?_; (first | refine A_pkt rfl rfl _ _ _ rfl rfl rfl ?_ | refine A_pkf rfl rfl _ _ _ rfl rfl rfl ?_)) | refine AL.nil ?_ | refine AL.skip rfl rfl ?_)) | with_reducible refine AW.at_region _ ?_ | (with_reducible (first | refine wk0 ?_ | refine wk2 ?_ | refine wk9 ?_ | refine wkb ?_ | refine wkd ?_)) | refine kcf rfl ?_)
      all_goals first | (exfalso; omega) | (exact Fin.q Try.results18 (.cons (.tmp rfl) (.cons (.tmp rfl) .nil)) [])
abbrev hlH (m k : Nat) (h : DHall) : List Ob := [.box 29 [i64 h.ticket, .sl 1 0 m, .t (.lst (h.waits.map tWt)), .sl 2 0 k], .row 0 66 5 (h.chans.map tCh), .row 0 50 4 (h.done.map tR)]
set_option maxHeartbeats 4000000 in
theorem note_c (m k : Nat) (h : DHall) (t : Int) (r : Rst) (hk : h.done.length = k) (hk1 : k ≤ 4398046511104) :
    Cio Try.prog 37 [.ptr 0 0, i64 t, aR r] (hlH m k h) (.tup []) (hlH m k ⟨h.ticket, h.chans, h.waits, noteL h.done t r⟩) := by
  have h1k : (h.done.map tR).length = k := by rw [List.length_map, hk]
  obtain ⟨ra, rb, rc, rd⟩ := r
  dsimp only [hlH, aR]
  by_cases ht : 0 ≤ t ∧ t < k
  · obtain ⟨j, rfl⟩ : ∃ j : Nat, t = j := ⟨t.toNat, by omega⟩
    rw [noteL_in (by omega)]
    obtain ⟨y, hy⟩ : ∃ y, h.done[j]? = some y := ⟨_, List.getElem?_eq_getElem (by omega)⟩
    refine Cio.enter' Try.func37 rfl Try.ntmps37 rfl qM ?_
    repeat' (first | ((with_reducible refine kAL ?_); (first | refine A_box rfl rfl 50 _ rfl rfl (.push qL qN) ?_ | (refine kL 0 rfl ?_; (first | refine A_mt rfl rfl rfl rfl ?_ | refine A_move rfl rfl _ (.inl rfl) (y := .ptr _ _) rfl ?_)) | (refine kL 105 rfl ?_; (first | refine A_cmp (d := 7) rfl rfl (c := true) .geq 3 3 _ _ rfl rfl rfl (by exact congrArg some (decide_eq_true (by (try (dsimp only; fail_if_success done)); omega))) ?_ | refine A_cmp (d := 15) rfl rfl (c := true) .lss 3 3 _ _ rfl rfl rfl (by exact congrArg some (decide_eq_true (by (try (dsimp only; fail_if_success done)); omega))) ?_)) | (refine kL 31 rfl ?_; refine A_nilc rfl rfl _ rfl rfl rfl ?_) | refine A_field rfl rfl 29 _ 3 rfl ud29 rfl inf27 (by decide) 3 rfl rfl ?_ | refine A_load rfl rfl 27 _ rfl ud27 rfl rfl rfl rfl ?_ | refine A_len rfl rfl 27 _ rfl ud27 rfl ?_ | (refine kL 19 rfl ?_; refine A_pkt rfl rfl _ _ _ rfl rfl rfl ?_) | refine AL.nil ?_)) | ((with_reducible refine kRG ?_); (first | (refine kR 0 rfl ?_; (first | refine R_mt rfl rfl rfl rfl ?_ | refine R_move rfl rfl _ (.inl rfl) (y := .ptr _ _) rfl ?_)) | (refine kR 31 rfl ?_; refine R_nilc rfl rfl _ rfl rfl rfl ?_) | refine R_field rfl rfl 29 _ 3 rfl ud29 rfl inf27 (by decide) 3 rfl rfl ?_ | refine R_load rfl rfl 27 _ rfl ud27 rfl rfl rfl rfl ?_ | refine R_load_agg rfl rfl 50 _ rfl ud50 rfl inf50 rfl rfl (us' := [_, _, _, _]) rfl rfl ?_ | (refine kR 870 rfl ?_; refine R_idx_sl rfl rfl 27 _ _ rfl ud27 inf50 rfl rfl (by (simp; omega)) rfl (by omega) _ (by with_reducible exact Int.toNat_natCast _) (by omega) ?_) | (refine kR 1603 rfl ?_; refine R_store_rp rfl rfl 50 _ _ rfl inf50 (by decide) rfl rfl (by exact map_get (by assumption)) rfl rfl rfl (Nat.le_of_ble_eq_true rfl) (by exact map_set (f := tR) (x := ⟨ra, rb, rc, rd⟩)) qN ?_) | refine RG.nil ⟨by kernel_rfl, ?_⟩)) | (with_reducible (first | refine wk0 ?_ | refine wk2 ?_ | refine wka ?_)) | refine kct rfl ?_ | with_reducible refine AW.at_region _ ?_ | refine AW.at_draw 2 mixed 0 [[], [0], [0, 1], [0, 1, 2], [], [], [0, 1, 2, 3, 4, 5], [0, 1, 2, 3, 4, 5, 6]] qR ?_)
    all_goals first | (exfalso; omega) | (exact Fin.q Try.results37 .nil [])
  · rw [noteL_out (by omega)]
    by_cases h0 : 0 ≤ t
    all_goals
      refine Cio.enter' Try.func37 rfl Try.ntmps37 rfl qM ?_
      repeat' (first | ((with_reducible refine kAL ?_); (first | refine A_box rfl rfl 50 _ rfl rfl (.push qL qN) ?_ | (refine kL 0 rfl ?_; (first | refine A_mt rfl rfl rfl rfl ?_ | refine A_move rfl rfl _ (.inl rfl) (y := .ptr _ _) rfl ?_)) | (refine kL 105 rfl ?_; (first | refine A_cmp (d := 7) rfl rfl (c := true) .geq 3 3 _ _ rfl rfl rfl (by exact congrArg some (decide_eq_true (by (try (dsimp only; fail_if_success done)); omega))) ?_ | refine A_cmp (d := 7) rfl rfl (c := false) .geq 3 3 _ _ rfl rfl rfl (by exact congrArg some (decide_eq_false (by (try (dsimp only; fail_if_success done)); omega))) ?_ | refine A_cmp (d := 15) rfl rfl (c := false) .lss 3 3 _ _ rfl rfl rfl (by exact congrArg some (decide_eq_false (by (try (dsimp only; fail_if_success done)); omega))) ?_)) | (refine kL 31 rfl ?_; refine A_nilc rfl rfl _ rfl rfl rfl ?_) | refine A_field rfl rfl 29 _ 3 rfl ud29 rfl inf27 (by decide) 3 rfl rfl ?_ | refine A_load rfl rfl 27 _ rfl ud27 rfl rfl rfl rfl ?_ | refine A_len rfl rfl 27 _ rfl ud27 rfl ?_ | (refine kL 19 rfl ?_; (first | refine A_pkt rfl rfl _ _ _ rfl rfl rfl ?_ | refine A_pkf rfl rfl _ _ _ rfl rfl rfl ?_)) | refine AL.nil ?_ | refine AL.skip rfl rfl ?_)) | (with_reducible (first | refine wk0 ?_ | refine wk2 ?_ | refine wka ?_ | refine wkd ?_)) | refine kcf rfl ?_ | with_reducible refine AW.at_region _ ?_)
      all_goals first | (exfalso; omega) | (exact Fin.q Try.results37 .nil [])
theorem code_c (e : Int) : Cd Try.prog 32 [i64 e] (.agg [i64 0, i64 0, i64 e, i64 0]) [] := by
  refine Cd.enter' Try.func32 rfl Try.ntmps32 rfl ?_
  repeat' (first | ((with_reducible refine kAL ?_); (first | refine A_alloc rfl rfl 50 rfl inf50 (cs := [.t (.v (.int .i64 0)), .t (.v (.int .i64 0)), .t (.v (.int .i64 0)), .t (.v (.int .i64 0))]) rfl (.push qL qN) ?_ | refine A_mt rfl rfl rfl rfl ?_ | (refine kL 1614 rfl ?_; refine A_build rfl rfl 50 _ rfl ud50 inf50 [(0, 1), (1, 1), (2, 1), (3, 1)] (by kernel_rfl) (zs := [.t (.v (.int .i64 0)), .t (.v (.int .i64 0)), .t (.v (.int .i64 0)), .t (.v (.int .i64 0))]) rfl (.cons rfl .nil) (cs := [_, _, _, _]) rfl ?_) | refine A_store rfl rfl 50 _ _ rfl inf50 rfl rfl rfl rfl (Nat.le_of_ble_eq_true rfl) qN qN ?_ | refine AL.nil ?_)) | with_reducible refine AW.at_region _ ?_ | (with_reducible (first | refine wk0 ?_ | refine wk2 ?_ | refine wk9 ?_ | refine wkb ?_)))
  all_goals first | (exfalso; omega) | (exact Fin.q Try.results32 (.cons (.agg rfl rfl ud50 rfl inf50 (us := [_, _, _, _]) rfl rfl) .nil) [])
theorem handleR_c (p g : Int) : Cd Try.prog 44 [i64 p, i64 g] (i64 (hdl p g)) [] := by
  unfold hdl
  by_cases h1 : 0 ≤ p ∧ p ≤ 7 ∧ 1 ≤ g ∧ g ≤ 4095
  · rw [if_pos h1]
    refine Cd.enter' Try.func44 rfl Try.ntmps44 rfl ?_
    repeat' (first | ((with_reducible refine kAL ?_); (first | refine A_as rfl rfl rfl rfl ?_ | refine A_mt rfl rfl rfl rfl ?_ | (refine kL 105 rfl ?_; (first | refine A_cmp (d := 6) rfl rfl (c := false) .lss 3 3 _ _ rfl rfl rfl (by exact congrArg some (decide_eq_false (by (try (dsimp only; fail_if_success done)); omega))) ?_ | refine A_cmp (d := 9) rfl rfl (c := false) .gtr 3 3 _ _ rfl rfl rfl (by exact congrArg some (decide_eq_false (by (try (dsimp only; fail_if_success done)); omega))) ?_ | refine A_cmp (d := 13) rfl rfl (c := false) .lss 3 3 _ _ rfl rfl rfl (by exact congrArg some (decide_eq_false (by (try (dsimp only; fail_if_success done)); omega))) ?_ | refine A_cmp (d := 17) rfl rfl (c := false) .gtr 3 3 _ _ rfl rfl rfl (by exact congrArg some (decide_eq_false (by (try (dsimp only; fail_if_success done)); omega))) ?_ | refine A_mul rfl rfl 3 3 _ _ rfl rfl rfl (by first | exact wi | rfl) ?_ | refine A_add rfl rfl 3 3 _ _ rfl rfl rfl (by exact wi) ?_)) | (refine kL 19 rfl ?_; refine A_pkf rfl rfl _ _ _ rfl rfl rfl ?_) | refine AL.nil ?_)) | with_reducible refine AW.at_region _ ?_ | (with_reducible (first | refine wk0 ?_ | refine wk2 ?_ | refine wk9 ?_ | refine wkb ?_ | refine wkd ?_)) | refine kcf rfl ?_)
    all_goals first | (exfalso; omega) | (refine Fin.q Try.results44 (.cons (.tmp rfl) .nil) [] (hr := (.t ?_)))
    all_goals first | rfl | (congr 3; omega) | skip
  · rw [if_neg h1]
    by_cases p1 : p < 0
    · refine Cd.enter' Try.func44 rfl Try.ntmps44 rfl ?_
      repeat' (first | ((with_reducible refine kAL ?_); (first | refine A_as rfl rfl rfl rfl ?_ | refine A_mt rfl rfl rfl rfl ?_ | refine A_cmp (d := 6) rfl rfl (c := true) .lss 3 3 _ _ rfl rfl rfl (by exact congrArg some (decide_eq_true (by (try (dsimp only; fail_if_success done)); omega))) ?_ | (refine kL 19 rfl ?_; refine A_pkt rfl rfl _ _ _ rfl rfl rfl ?_) | refine AL.nil ?_ | refine AL.skip rfl rfl ?_)) | with_reducible refine AW.at_region _ ?_ | (with_reducible (first | refine wk0 ?_ | refine wk2 ?_ | refine wk3 ?_ | refine wk9 ?_ | refine wkb ?_)) | refine kct rfl ?_)
      all_goals first | (exfalso; omega) | (exact Fin.q Try.results44 (.cons (.tmp rfl) .nil) [])
    · by_cases p2 : 7 < p
      · refine Cd.enter' Try.func44 rfl Try.ntmps44 rfl ?_
        repeat' (first | ((with_reducible refine kAL ?_); (first | refine A_as rfl rfl rfl rfl ?_ | refine A_mt rfl rfl rfl rfl ?_ | (refine kL 105 rfl ?_; (first | refine A_cmp (d := 6) rfl rfl (c := false) .lss 3 3 _ _ rfl rfl rfl (by exact congrArg some (decide_eq_false (by (try (dsimp only; fail_if_success done)); omega))) ?_ | refine A_cmp (d := 9) rfl rfl (c := true) .gtr 3 3 _ _ rfl rfl rfl (by exact congrArg some (decide_eq_true (by (try (dsimp only; fail_if_success done)); omega))) ?_)) | (refine kL 19 rfl ?_; (first | refine A_pkt rfl rfl _ _ _ rfl rfl rfl ?_ | refine A_pkf rfl rfl _ _ _ rfl rfl rfl ?_)) | refine AL.nil ?_ | refine AL.skip rfl rfl ?_)) | with_reducible refine AW.at_region _ ?_ | (with_reducible (first | refine wk0 ?_ | refine wk2 ?_ | refine wk3 ?_ | refine wk9 ?_ | refine wkb ?_)) | refine kct rfl ?_)
        all_goals first | (exfalso; omega) | (exact Fin.q Try.results44 (.cons (.tmp rfl) .nil) [])
      · by_cases p3 : g < 1
        · refine Cd.enter' Try.func44 rfl Try.ntmps44 rfl ?_
          repeat' (first | ((with_reducible refine kAL ?_); (first | refine A_as rfl rfl rfl rfl ?_ | refine A_mt rfl rfl rfl rfl ?_ | (refine kL 105 rfl ?_; (first | refine A_cmp (d := 6) rfl rfl (c := false) .lss 3 3 _ _ rfl rfl rfl (by exact congrArg some (decide_eq_false (by (try (dsimp only; fail_if_success done)); omega))) ?_ | refine A_cmp (d := 9) rfl rfl (c := false) .gtr 3 3 _ _ rfl rfl rfl (by exact congrArg some (decide_eq_false (by (try (dsimp only; fail_if_success done)); omega))) ?_ | refine A_cmp (d := 13) rfl rfl (c := true) .lss 3 3 _ _ rfl rfl rfl (by exact congrArg some (decide_eq_true (by (try (dsimp only; fail_if_success done)); omega))) ?_)) | (refine kL 19 rfl ?_; (first | refine A_pkt rfl rfl _ _ _ rfl rfl rfl ?_ | refine A_pkf rfl rfl _ _ _ rfl rfl rfl ?_)) | refine AL.nil ?_ | refine AL.skip rfl rfl ?_)) | with_reducible refine AW.at_region _ ?_ | (with_reducible (first | refine wk0 ?_ | refine wk2 ?_ | refine wk3 ?_ | refine wk9 ?_ | refine wkb ?_)) | refine kct rfl ?_)
          all_goals first | (exfalso; omega) | (exact Fin.q Try.results44 (.cons (.tmp rfl) .nil) [])
        · refine Cd.enter' Try.func44 rfl Try.ntmps44 rfl ?_
          repeat' (first | ((with_reducible refine kAL ?_); (first | refine A_as rfl rfl rfl rfl ?_ | refine A_mt rfl rfl rfl rfl ?_ | (refine kL 105 rfl ?_; (first | refine A_cmp (d := 6) rfl rfl (c := false) .lss 3 3 _ _ rfl rfl rfl (by exact congrArg some (decide_eq_false (by (try (dsimp only; fail_if_success done)); omega))) ?_ | refine A_cmp (d := 9) rfl rfl (c := false) .gtr 3 3 _ _ rfl rfl rfl (by exact congrArg some (decide_eq_false (by (try (dsimp only; fail_if_success done)); omega))) ?_ | refine A_cmp (d := 13) rfl rfl (c := false) .lss 3 3 _ _ rfl rfl rfl (by exact congrArg some (decide_eq_false (by (try (dsimp only; fail_if_success done)); omega))) ?_ | refine A_cmp (d := 17) rfl rfl (c := true) .gtr 3 3 _ _ rfl rfl rfl (by exact congrArg some (decide_eq_true (by (try (dsimp only; fail_if_success done)); omega))) ?_)) | (refine kL 19 rfl ?_; refine A_pkf rfl rfl _ _ _ rfl rfl rfl ?_) | refine AL.nil ?_)) | with_reducible refine AW.at_region _ ?_ | (with_reducible (first | refine wk0 ?_ | refine wk2 ?_ | refine wk3 ?_ | refine wk9 ?_ | refine wkb ?_)) | refine kct rfl ?_)
          all_goals first | (exfalso; omega) | (exact Fin.q Try.results44 (.cons (.tmp rfl) .nil) [])
set_option maxHeartbeats 16000000 in
theorem ropen_c (c : DConf) (m k : Nat) (h : DHall) (cap : Int) (hm : h.chans.length = m) (hm1 : m ≤ 2932031007402) (hg : ∀ x ∈ h.chans, sI x.gen) :
    Cio Try.prog 33 [aCf c, .ptr 0 0, i64 cap] (hlH m k h) (aR (openH c h cap).2) (hlH m k (openH c h cap).1) := by
  have h1 : (h.chans.map tCh).length = m := by rw [List.length_map, hm]
  unfold openH
  by_cases hcap : cap < 0 ∨ c.cap < cap
  · rw [if_pos hcap]
    dsimp only [hlH, aR]
    have cE := code_c 1
    by_cases h0 : cap < 0
    all_goals
      first | refine Cd.enter' Try.func33 rfl Try.ntmps33 rfl ?_ | refine Cio.enter' Try.func33 rfl Try.ntmps33 rfl qM ?_ | refine C.enter' Try.func33 rfl Try.ntmps33 rfl qM ?_
      repeat' (first | ((with_reducible refine kAL ?_); (first | refine A_box rfl rfl 24 _ rfl rfl (.push qL qN) ?_ | refine A_alloc rfl rfl 50 rfl inf50 (cs := [.t (.v (.int .i64 0)), .t (.v (.int .i64 0)), .t (.v (.int .i64 0)), .t (.v (.int .i64 0))]) rfl (.push qL qN) ?_ | refine A_mt rfl rfl rfl rfl ?_ | (refine kL 105 rfl ?_; (first | refine A_cmp (d := 11) rfl rfl (c := true) .lss 3 3 _ _ rfl rfl rfl (by exact congrArg some (decide_eq_true (by (try (dsimp only; fail_if_success done)); omega))) ?_ | refine A_cmp (d := 11) rfl rfl (c := false) .lss 3 3 _ _ rfl rfl rfl (by exact congrArg some (decide_eq_false (by (try (dsimp only; fail_if_success done)); omega))) ?_ | refine A_cmp (d := 16) rfl rfl (c := true) .gtr 3 3 _ _ rfl rfl rfl (by exact congrArg some (decide_eq_true (by (try (dsimp only; fail_if_success done)); omega))) ?_)) | refine A_field rfl rfl 24 _ 3 rfl ud24 rfl inf3 (by decide) 3 rfl rfl ?_ | refine A_load rfl rfl 3 _ rfl ud3 rfl rfl rfl rfl ?_ | (refine kL 19 rfl ?_; (first | refine A_pkt rfl rfl _ _ _ rfl rfl rfl ?_ | refine A_pkf rfl rfl _ _ _ rfl rfl rfl ?_)) | (refine kL 1034 rfl ?_; refine A_cl rfl rfl Try.func32 rfl (cE) ?_) | refine A_store rfl rfl 50 _ _ rfl inf50 rfl rfl rfl rfl (Nat.le_of_ble_eq_true rfl) qN qN ?_ | refine AL.nil ?_ | refine AL.skip rfl rfl ?_)) | (with_reducible (first | refine wk0 ?_ | refine wk2 ?_ | refine wk3 ?_ | refine wk9 ?_ | refine wkb ?_)) | refine kct rfl ?_ | with_reducible refine AW.at_region _ ?_)
      all_goals first | (exfalso; omega) | (exact Fin.q Try.results33 (.cons (.agg rfl rfl ud50 rfl inf50 (us := [_, _, _, _]) rfl rfl) .nil) [])
  · rw [if_neg hcap]
    generalize hR : (if 0 ≤ ixF (okO c) h.chans then (cH h (h.chans.set (ixF (okO c) h.chans).toNat ⟨(chA h (ixF (okO c) h.chans)).gen + 1, cap, true, false, []⟩), (⟨0, 0, 0, hdl (ixF (okO c) h.chans) ((chA h (ixF (okO c) h.chans)).gen + 1)⟩ : Rst)) else (h, ⟨0, 0, if h.chans.any (fun x => !x.used) then 7 else 6, 0⟩)) = R
    dsimp only [hlH]
    first | refine Cd.enter' Try.func33 rfl Try.ntmps33 rfl ?_ | refine Cio.enter' Try.func33 rfl Try.ntmps33 rfl qM ?_ | refine C.enter' Try.func33 rfl Try.ntmps33 rfl qM ?_
    repeat' (first | ((with_reducible refine kAL ?_); (first | refine A_box rfl rfl 24 _ rfl rfl (.push qL qN) ?_ | refine A_alloc rfl rfl 50 rfl inf50 (cs := [.t (.v (.int .i64 0)), .t (.v (.int .i64 0)), .t (.v (.int .i64 0)), .t (.v (.int .i64 0))]) rfl (.push qL qN) ?_ | (refine kL 0 rfl ?_; (first | refine A_mt rfl rfl rfl rfl ?_ | refine A_move rfl rfl _ (.inl rfl) (y := .ptr _ _) rfl ?_)) | (refine kL 105 rfl ?_; (first | refine A_cmp (d := 11) rfl rfl (c := false) .lss 3 3 _ _ rfl rfl rfl (by exact congrArg some (decide_eq_false (by (try (dsimp only; fail_if_success done)); omega))) ?_ | refine A_cmp (d := 16) rfl rfl (c := false) .gtr 3 3 _ _ rfl rfl rfl (by exact congrArg some (decide_eq_false (by (try (dsimp only; fail_if_success done)); omega))) ?_)) | refine A_field rfl rfl 24 _ 3 rfl ud24 rfl inf3 (by decide) 3 rfl rfl ?_ | refine A_load rfl rfl 3 _ rfl ud3 rfl rfl rfl rfl ?_ | (refine kL 19 rfl ?_; refine A_pkf rfl rfl _ _ _ rfl rfl rfl ?_) | refine A_as rfl rfl rfl rfl ?_ | (refine kL 31 rfl ?_; refine A_nilc rfl rfl _ rfl rfl rfl ?_) | refine A_field rfl rfl 29 _ 1 rfl ud29 rfl inf25 (by decide) 1 rfl rfl ?_ | refine A_load rfl rfl 25 _ rfl ud25 rfl rfl rfl rfl ?_ | refine A_len rfl rfl 25 _ rfl ud25 rfl ?_ | refine AL.nil ?_)) | (with_reducible (first | refine wk0 ?_ | refine wk1 ?_ | refine wk2 ?_ | refine wkd ?_)) | refine kcf rfl ?_ | with_reducible refine AW.at_region _ ?_)
    all_goals first | (exfalso; omega) | skip
    refine AW.loopP (fun (q : Nat) => q ≤ m ∧ ∀ j, j < q → ∀ b, h.chans[j]? = some b → okO c b = false) (fun (q : Nat) => (pu (pu (pu (pu (pu (pu (pu (fun _ => .any) 1 (.ptr 0 0)) 2 (i64 cap)) 3 (.ptr 3 0)) 6 (.ptr 4 0)) 7 (i64 (if (h.chans.take q).any (fun x => !x.used) then 7 else 6))) 23 (i64 m)) 24 (i64 q))) (fun (q : Nat) => [.box 29 [i64 h.ticket, .sl 1 0 m, .t (.lst (h.waits.map tWt)), .sl 2 0 k], .row 0 66 5 (h.chans.map tCh), .row 0 50 4 (h.done.map tR), .box 24 [i64 c.kind, i64 c.threads, i64 c.chans, i64 c.cap, i64 c.nodes, i64 c.retire, i64 c.patience, i64 c.tags, i64 c.seqs, i64 c.gens, .ln (c.start.map tI)], .box 50 [i64 0, i64 0, i64 0, i64 0]]) (fun (q : Nat) => m - q) (0) ?_ ?_ ?_
    · exact ⟨Nat.zero_le _, fun j hj => by omega⟩
    · exact Wk.cq 5
    · rintro q ⟨hq, hno⟩
      by_cases hi : q < m
      · obtain ⟨⟨g, cp, used, closed, buf⟩, hc⟩ : ∃ x, h.chans[q]? = some x := ⟨_, List.getElem?_eq_getElem (by omega)⟩
        have hgb := hg _ (List.mem_of_getElem? hc)
        unfold sI at hgb
        dsimp only at hgb
        have hany : ((h.chans.take (q + 1)).any fun x => !x.used) = (((h.chans.take q).any fun x => !x.used) || !used) := by rw [List.take_add_one, hc, List.any_append]; simp
        cases ho : okO c ⟨g, cp, used, closed, buf⟩
        · have hno' : ∀ j, j < q + 1 → ∀ b, h.chans[j]? = some b → okO c b = false := fun j hj b hb => by
            by_cases ej : j = q
            · subst ej; rw [hc] at hb; cases hb; exact ho
            · exact hno j (by omega) b hb
          cases used
          · have hge : ¬ g < min c.gens 4095 := by unfold okO at ho; simpa using ho
            generalize ((h.chans.take q).any fun x => !x.used) = sp at hany
            by_cases hg1 : g ≥ c.gens
            all_goals
              repeat' (first | ((with_reducible refine kAL ?_); (first | (refine kL 0 rfl ?_; (first | refine A_mt rfl rfl rfl rfl ?_ | refine A_move rfl rfl _ (.inl rfl) (y := .ptr _ _) rfl ?_)) | (refine kL 105 rfl ?_; (first | refine A_cmp (d := 25) rfl rfl (c := true) .lss 3 3 _ _ rfl rfl rfl (by exact congrArg some (decide_eq_true (by (try (dsimp only; fail_if_success done)); omega))) ?_ | refine A_add rfl rfl 3 3 _ _ rfl rfl rfl (by first | exact wi | rfl) ?_)) | refine A_load_rp rfl rfl 3 _ rfl ud3 rfl rfl rfl (by exact map_get (by assumption)) rfl ?_ | refine A_as rfl rfl rfl rfl ?_ | (refine kL 31 rfl ?_; refine A_nilc rfl rfl _ rfl rfl rfl ?_) | refine A_field rfl rfl 29 _ 1 rfl ud29 rfl inf25 (by decide) 1 rfl rfl ?_ | refine A_load rfl rfl 25 _ rfl ud25 rfl rfl rfl rfl ?_ | (refine kL 806 rfl ?_; refine A_idx_sl rfl rfl 25 _ _ rfl ud25 inf66 rfl rfl (by (simp; omega)) rfl (by omega) _ (by with_reducible exact Int.toNat_natCast _) (by omega) ?_) | (refine kL 2116 rfl ?_; (first | refine A_field rfl rfl 66 _ 2 rfl ud66 rfl inf4 (by decide) 2 rfl rfl ?_ | refine A_field rfl rfl 66 _ 0 rfl ud66 rfl inf3 (by decide) 0 rfl rfl ?_)) | refine A_load_rp rfl rfl 4 _ rfl ud4 rfl rfl rfl (by exact map_get (by assumption)) rfl ?_ | refine AL.nil ?_)) | ((with_reducible refine kRG ?_); (first | (refine kR 0 rfl ?_; (first | refine R_mt rfl rfl rfl rfl ?_ | refine R_move rfl rfl _ (.inl rfl) (y := .ptr _ _) rfl ?_)) | (refine kR 31 rfl ?_; refine R_nilc rfl rfl _ rfl rfl rfl ?_) | refine R_field rfl rfl 29 _ 1 rfl ud29 rfl inf25 (by decide) 1 rfl rfl ?_ | refine R_load rfl rfl 25 _ rfl ud25 rfl rfl rfl rfl ?_ | (refine kR 806 rfl ?_; refine R_idx_sl rfl rfl 25 _ _ rfl ud25 inf66 rfl rfl (by first | exact Nat.le_refl _ | (simp; omega)) rfl (by omega) _ (by with_reducible exact Int.toNat_natCast _) (by omega) ?_) | refine R_field rfl rfl 66 _ 0 rfl ud66 rfl inf3 (by decide) 0 rfl rfl ?_ | (refine kR 98 rfl ?_; (first | refine R_load rfl rfl 3 _ rfl ud3 rfl rfl rfl rfl ?_ | refine R_load_rp rfl rfl 3 _ rfl ud3 rfl rfl rfl (by exact map_get (by assumption)) rfl ?_)) | refine R_field rfl rfl 24 _ 9 rfl ud24 rfl inf3 (by decide) 9 rfl rfl ?_ | (refine kR 105 rfl ?_; (first | refine R_cmp (d := 54) rfl rfl (c := true) .geq 3 3 _ _ rfl rfl rfl (by exact congrArg some (decide_eq_true (by (try (dsimp only; fail_if_success done)); omega))) ?_ | refine R_cmp (d := 54) rfl rfl (c := false) .geq 3 3 _ _ rfl rfl rfl (by exact congrArg some (decide_eq_false (by (try (dsimp only; fail_if_success done)); omega))) ?_ | refine R_cmp (d := 64) rfl rfl (c := true) .geq 3 3 _ _ rfl rfl rfl (by exact congrArg some (decide_eq_true (by (try (dsimp only; fail_if_success done)); omega))) ?_)) | (refine kR 19 rfl ?_; (first | refine R_pkt rfl rfl _ _ _ rfl rfl rfl ?_ | refine R_pkf rfl rfl _ _ _ rfl rfl rfl ?_)) | refine RG.nil ⟨by kernel_rfl, ?_⟩ | refine R_skip rfl rfl ?_)) | (with_reducible (first | refine wk0 ?_ | refine wk1 ?_ | refine wk2 ?_ | refine wk4 ?_ | refine wk7 ?_ | refine wkc ?_ | refine wkd ?_)) | refine kct rfl ?_ | refine kcf rfl ?_ | with_reducible refine AW.at_region _ ?_ | refine AW.at_draw 9 mixed 0 [[], [0], [0, 1], [0, 1, 2], [], [0, 1, 2, 3, 4], [0, 1, 2, 3, 4, 5], [0, 1, 2, 3, 4, 5, 6], [], [8], [0, 1, 2, 3, 4, 5, 6, 7, 8, 9], [0, 1, 2, 3, 4, 5, 6, 7, 8, 9, 10], [0, 1, 2, 3, 4, 5, 6, 7, 8, 9, 10, 11], [0, 1, 2, 3, 4, 5, 6, 7, 8, 9, 10, 11, 12], [0, 1, 2, 3, 4, 5, 6, 7, 8, 9, 10, 11, 12, 13], [0, 1, 2, 3, 4, 5, 6, 7, 8, 9, 10, 11, 12, 13, 14], [0, 1, 2, 3, 4, 5, 6, 7, 8, 9, 10, 11], [0, 1, 2, 3, 4, 5, 6, 7, 8, 9, 10, 11, 12, 13, 14, 15, 16], [0, 1, 2, 3, 4, 5, 6, 7, 8, 9, 10, 11, 12, 13, 14, 15, 16, 17], [0, 1, 2, 3, 4, 5, 6, 7, 8, 9, 10, 11, 12, 13, 14, 15, 16, 17, 18], [0, 1, 2, 3, 4, 5, 6, 7, 8, 9, 10, 11, 12, 13, 14, 15, 16, 17, 18, 19], [0, 1, 2, 3, 4, 5, 6, 7, 8, 9, 10, 11, 12, 13, 14, 15, 16, 17, 18, 19, 20]] qR ?_)
              all_goals first | (exfalso; omega) | skip
              refine ⟨q + 1, ⟨by omega, hno'⟩, by omega, ?_⟩
              rw [hany]
              simp only [Bool.not_false, Bool.or_true, if_true]
              exact Wk.cq 5
          · generalize ((h.chans.take q).any fun x => !x.used) = sp at hany
            repeat' (first | ((with_reducible refine kAL ?_); (first | (refine kL 0 rfl ?_; (first | refine A_mt rfl rfl rfl rfl ?_ | refine A_move rfl rfl _ (.inl rfl) (y := .ptr _ _) rfl ?_)) | (refine kL 105 rfl ?_; (first | refine A_cmp (d := 25) rfl rfl (c := true) .lss 3 3 _ _ rfl rfl rfl (by exact congrArg some (decide_eq_true (by (try (dsimp only; fail_if_success done)); omega))) ?_ | refine A_add rfl rfl 3 3 _ _ rfl rfl rfl (by exact wi) ?_)) | refine A_as rfl rfl rfl rfl ?_ | (refine kL 31 rfl ?_; refine A_nilc rfl rfl _ rfl rfl rfl ?_) | refine A_field rfl rfl 29 _ 1 rfl ud29 rfl inf25 (by decide) 1 rfl rfl ?_ | refine A_load rfl rfl 25 _ rfl ud25 rfl rfl rfl rfl ?_ | (refine kL 806 rfl ?_; refine A_idx_sl rfl rfl 25 _ _ rfl ud25 inf66 rfl rfl (by (simp; omega)) rfl (by omega) _ (by with_reducible exact Int.toNat_natCast _) (by omega) ?_) | refine A_field rfl rfl 66 _ 2 rfl ud66 rfl inf4 (by decide) 2 rfl rfl ?_ | refine A_load_rp rfl rfl 4 _ rfl ud4 rfl rfl rfl (by exact map_get (by assumption)) rfl ?_ | refine AL.nil ?_)) | (with_reducible (first | refine wk0 ?_ | refine wk1 ?_ | refine wk2 ?_ | refine wk4 ?_ | refine wk7 ?_ | refine wkc ?_ | refine wkd ?_)) | refine kct rfl ?_ | with_reducible refine AW.at_region _ ?_)
            all_goals first | (exfalso; omega) | skip
            refine ⟨q + 1, ⟨by omega, hno'⟩, by omega, ?_⟩
            rw [hany]
            simp only [Bool.not_true, Bool.or_false]
            exact Wk.cq 5
        · have hix := ixF_at (okO c) h.chans q _ hno hc ho
          have hch : chA h (q : Int) = ⟨g, cp, used, closed, buf⟩ := by unfold chA; rw [Int.toNat_natCast, getD_of hc]
          rw [hix, if_pos (by omega), hch, Int.toNat_natCast] at hR
          have hlt : used = false ∧ g < min c.gens 4095 := by unfold okO at ho; simpa using ho
          obtain ⟨rfl, hge⟩ := hlt
          have hwr : IntKind.i64.wrap (g + 1) = g + 1 := wi
          rw [← hwr] at hR
          subst hR
          dsimp only [cH]
          have cH := handleR_c q (IntKind.i64.wrap (g + 1))
          repeat' (first | ((with_reducible refine kAL ?_); (first | (refine kL 0 rfl ?_; (first | refine A_mt rfl rfl rfl rfl ?_ | refine A_move rfl rfl _ (.inl rfl) (y := .ptr _ _) rfl ?_)) | (refine kL 105 rfl ?_; (first | refine A_cmp (d := 25) rfl rfl (c := true) .lss 3 3 _ _ rfl rfl rfl (by exact congrArg some (decide_eq_true (by (try (dsimp only; fail_if_success done)); omega))) ?_ | refine A_add rfl rfl 3 3 _ _ rfl rfl rfl (by rfl) ?_)) | refine A_load_rp rfl rfl 3 _ rfl ud3 rfl rfl rfl (by exact map_get (by assumption)) rfl ?_ | refine A_store rfl rfl 50 _ _ rfl inf50 rfl rfl rfl rfl (Nat.le_of_ble_eq_true rfl) qN qN ?_ | refine A_as rfl rfl rfl rfl ?_ | (refine kL 31 rfl ?_; refine A_nilc rfl rfl _ rfl rfl rfl ?_) | refine A_field rfl rfl 29 _ 1 rfl ud29 rfl inf25 (by decide) 1 rfl rfl ?_ | refine A_load rfl rfl 25 _ rfl ud25 rfl rfl rfl rfl ?_ | (refine kL 806 rfl ?_; refine A_idx_sl rfl rfl 25 _ _ rfl ud25 inf66 rfl rfl (by (simp; omega)) rfl (by omega) _ (by with_reducible exact Int.toNat_natCast _) (by omega) ?_) | (refine kL 2116 rfl ?_; (first | refine A_field rfl rfl 66 _ 2 rfl ud66 rfl inf4 (by decide) 2 rfl rfl ?_ | refine A_field rfl rfl 66 _ 0 rfl ud66 rfl inf3 (by decide) 0 rfl rfl ?_)) | refine A_load_rp rfl rfl 4 _ rfl ud4 rfl rfl rfl (by exact map_get (by assumption)) rfl ?_ | (refine kL 2126 rfl ?_; refine A_build rfl rfl 66 _ rfl ud66 inf66 [(0, 1), (1, 1), (2, 1), (3, 1), (4, 1)] (by kernel_rfl) (zs := [.t (.v (.int .i64 0)), .t (.v (.int .i64 0)), .t (.v (.bool false)), .t (.v (.bool false)), AV.nl]) rfl (.cons rfl (.cons rfl (.cons rfl .nil))) (cs := [_, _, _, _, _]) rfl ?_) | (refine kL 2115 rfl ?_; refine A_store_rp rfl rfl 66 _ _ rfl inf66 (by decide) rfl rfl (by exact map_get (by assumption)) rfl rfl rfl (Nat.le_of_ble_eq_true rfl) (by exact map_set (f := tCh) (x := ⟨IntKind.i64.wrap (g + 1), cap, true, false, []⟩)) qN ?_) | (refine kL 1418 rfl ?_; refine A_cl rfl rfl Try.func44 rfl (cH) ?_) | (refine kL 1614 rfl ?_; refine A_build rfl rfl 50 _ rfl ud50 inf50 [(0, 1), (1, 1), (2, 1), (3, 1)] (by kernel_rfl) (zs := [.t (.v (.int .i64 0)), .t (.v (.int .i64 0)), .t (.v (.int .i64 0)), .t (.v (.int .i64 0))]) rfl (.cons rfl .nil) (cs := [_, _, _, _]) rfl ?_) | refine AL.nil ?_)) | ((with_reducible refine kRG ?_); (first | (refine kR 0 rfl ?_; (first | refine R_mt rfl rfl rfl rfl ?_ | refine R_move rfl rfl _ (.inl rfl) (y := .ptr _ _) rfl ?_)) | (refine kR 31 rfl ?_; refine R_nilc rfl rfl _ rfl rfl rfl ?_) | refine R_field rfl rfl 29 _ 1 rfl ud29 rfl inf25 (by decide) 1 rfl rfl ?_ | refine R_load rfl rfl 25 _ rfl ud25 rfl rfl rfl rfl ?_ | (refine kR 806 rfl ?_; refine R_idx_sl rfl rfl 25 _ _ rfl ud25 inf66 rfl rfl (by (simp; omega)) rfl (by omega) _ (by with_reducible exact Int.toNat_natCast _) (by omega) ?_) | refine R_field rfl rfl 66 _ 0 rfl ud66 rfl inf3 (by decide) 0 rfl rfl ?_ | (refine kR 98 rfl ?_; (first | refine R_load rfl rfl 3 _ rfl ud3 rfl rfl rfl rfl ?_ | refine R_load_rp rfl rfl 3 _ rfl ud3 rfl rfl rfl (by exact map_get (by assumption)) rfl ?_)) | refine R_field rfl rfl 24 _ 9 rfl ud24 rfl inf3 (by decide) 9 rfl rfl ?_ | (refine kR 105 rfl ?_; (first | refine R_cmp (d := 54) rfl rfl (c := false) .geq 3 3 _ _ rfl rfl rfl (by exact congrArg some (decide_eq_false (by (try (dsimp only; fail_if_success done)); omega))) ?_ | refine R_cmp (d := 64) rfl rfl (c := false) .geq 3 3 _ _ rfl rfl rfl (by exact congrArg some (decide_eq_false (by (try (dsimp only; fail_if_success done)); omega))) ?_)) | (refine kR 19 rfl ?_; refine R_pkf rfl rfl _ _ _ rfl rfl rfl ?_) | refine RG.nil ⟨by kernel_rfl, ?_⟩)) | (with_reducible (first | refine wk0 ?_ | refine wk1 ?_ | refine wk2 ?_ | refine wk3 ?_ | refine wk6 ?_ | refine wk9 ?_ | refine wkb ?_ | refine wkd ?_)) | refine kct rfl ?_ | refine kcf rfl ?_ | with_reducible refine AW.at_region _ ?_ | refine AW.at_draw 9 mixed 0 [[], [0], [0, 1], [0, 1, 2], [], [0, 1, 2, 3, 4], [0, 1, 2, 3, 4, 5], [0, 1, 2, 3, 4, 5, 6], [], [8], [0, 1, 2, 3, 4, 5, 6, 7, 8, 9], [0, 1, 2, 3, 4, 5, 6, 7, 8, 9, 10], [0, 1, 2, 3, 4, 5, 6, 7, 8, 9, 10, 11], [0, 1, 2, 3, 4, 5, 6, 7, 8, 9, 10, 11, 12], [0, 1, 2, 3, 4, 5, 6, 7, 8, 9, 10, 11, 12, 13], [0, 1, 2, 3, 4, 5, 6, 7, 8, 9, 10, 11, 12, 13, 14], [0, 1, 2, 3, 4, 5, 6, 7, 8, 9, 10, 11], [0, 1, 2, 3, 4, 5, 6, 7, 8, 9, 10, 11, 12, 13, 14, 15, 16], [0, 1, 2, 3, 4, 5, 6, 7, 8, 9, 10, 11, 12, 13, 14, 15, 16, 17], [0, 1, 2, 3, 4, 5, 6, 7, 8, 9, 10, 11, 12, 13, 14, 15, 16, 17, 18], [0, 1, 2, 3, 4, 5, 6, 7, 8, 9, 10, 11, 12, 13, 14, 15, 16, 17, 18, 19], [0, 1, 2, 3, 4, 5, 6, 7, 8, 9, 10, 11, 12, 13, 14, 15, 16, 17, 18, 19, 20]] qR ?_)
          all_goals first | (exfalso; omega) | (exact Fin.q Try.results33 (.cons (.agg rfl rfl ud50 rfl inf50 (us := [_, _, _, _]) rfl rfl) .nil) [])
      · have e : q = m := by omega
        subst e
        have hix := ixF_none (okO c) h.chans fun j b hb => hno j (by have := get_lt hb; omega) b hb
        rw [hix, if_neg (by omega)] at hR
        rw [← hm, List.take_length]
        subst hR
        dsimp only
        have cE := code_c (if h.chans.any (fun x => !x.used) then 7 else 6)
        generalize (if h.chans.any (fun x => !x.used) then (7 : Int) else 6) = sp at *
        rw [hm]
        repeat' (first | ((with_reducible refine kAL ?_); (first | refine A_mt rfl rfl rfl rfl ?_ | refine A_cmp (d := 25) rfl rfl (c := false) .lss 3 3 _ _ rfl rfl rfl (by exact congrArg some (decide_eq_false (by (try (dsimp only; fail_if_success done)); omega))) ?_ | (refine kL 1034 rfl ?_; refine A_cl rfl rfl Try.func32 rfl (cE) ?_) | refine A_store rfl rfl 50 _ _ rfl inf50 rfl rfl rfl rfl (Nat.le_of_ble_eq_true rfl) qN qN ?_ | refine AL.nil ?_)) | (with_reducible (first | refine wk0 ?_ | refine wk2 ?_ | refine wk4 ?_ | refine wk7 ?_ | refine wk9 ?_ | refine wkb ?_ | refine wkc ?_)) | refine kcf rfl ?_ | with_reducible refine AW.at_region _ ?_)
        all_goals first | (exfalso; omega) | (exact Fin.q Try.results33 (.cons (.agg rfl rfl ud50 rfl inf50 (us := [_, _, _, _]) rfl rfl) .nil) [])
set_option maxHeartbeats 8000000 in
theorem rput_c (m k : Nat) (h : DHall) (j : Nat) (ch : DChan) (g : DG) (hc : h.chans[j]? = some ch) (hm : h.chans.length = m) (hk : h.done.length = k) (hm1 : m ≤ 2932031007402) (hk1 : k ≤ 4398046511104) (hg : g.told.length ≤ 1152921504606846976) :
    Cio Try.prog 69 [.ptr 0 0, i64 j, gR g] (hlH m k h) (.tup []) (hlH m k ⟨h.ticket, h.chans.set j g.c, g.l, tellL h.done g.told⟩) := by
  have h1 : (h.chans.map tCh).length = m := by rw [List.length_map, hm]
  obtain ⟨⟨g1, g2, g3, g4, gb⟩, gl, ⟨r1, r2, r3, r4⟩, gt⟩ := g
  have h2 : (gt.map tTd).length = gt.length := List.length_map _
  have hj := get_lt hc
  dsimp only [hlH, gR] at *
  refine Cio.enter' Try.func69 rfl Try.ntmps69 rfl qM ?_
  repeat' (first | ((with_reducible refine kAL ?_); (first | refine A_box rfl rfl 97 _ rfl rfl (.push qL qN) ?_ | (refine kL 0 rfl ?_; (first | refine A_mt rfl rfl rfl rfl ?_ | refine A_move rfl rfl _ (.inl rfl) (y := .ptr _ _) rfl ?_)) | (refine kL 3108 rfl ?_; (first | refine A_field rfl rfl 97 _ 1 rfl ud97 rfl inf26 (by decide) 5 rfl rfl ?_ | refine A_field rfl rfl 97 _ 3 rfl ud97 rfl inf95 (by decide) 10 rfl rfl ?_)) | refine A_load rfl rfl 26 _ rfl ud26 rfl rfl rfl rfl ?_ | (refine kL 31 rfl ?_; refine A_nilc rfl rfl _ rfl rfl rfl ?_) | refine A_field rfl rfl 29 _ 2 rfl ud29 rfl inf26 (by decide) 2 rfl rfl ?_ | refine A_store rfl rfl 26 _ _ rfl inf26 rfl rfl rfl rfl (Nat.le_of_ble_eq_true rfl) qN qN ?_ | refine A_load rfl rfl 95 _ rfl ud95 rfl rfl rfl rfl ?_ | refine A_len rfl rfl 95 _ rfl ud95 rfl ?_ | refine AL.nil ?_)) | ((with_reducible refine kRG ?_); (first | (refine kR 0 rfl ?_; (first | refine R_mt rfl rfl rfl rfl ?_ | refine R_move rfl rfl _ (.inl rfl) (y := .ptr _ _) rfl ?_)) | (refine kR 31 rfl ?_; refine R_nilc rfl rfl _ rfl rfl rfl ?_) | refine R_field rfl rfl 29 _ 1 rfl ud29 rfl inf25 (by decide) 1 rfl rfl ?_ | refine R_load rfl rfl 25 _ rfl ud25 rfl rfl rfl rfl ?_ | refine R_field rfl rfl 97 _ 0 rfl ud97 rfl inf66 (by decide) 0 rfl rfl ?_ | refine R_load_agg rfl rfl 66 _ rfl ud66 rfl inf66 rfl rfl (us' := [_, _, _, _, _]) rfl rfl ?_ | (refine kR 806 rfl ?_; refine R_idx_sl rfl rfl 25 _ _ rfl ud25 inf66 rfl rfl (by (simp; omega)) rfl (by omega) _ (by with_reducible exact Int.toNat_natCast _) (by omega) ?_) | (refine kR 2115 rfl ?_; refine R_store_rp rfl rfl 66 _ _ rfl inf66 (by decide) rfl rfl (by exact map_get (by assumption)) rfl rfl rfl (Nat.le_of_ble_eq_true rfl) (by exact map_set (f := tCh) (x := ⟨g1, g2, g3, g4, gb⟩)) qN ?_) | refine RG.nil ⟨by kernel_rfl, ?_⟩)) | (with_reducible (first | refine wk0 ?_ | refine wk1 ?_ | refine wk2 ?_)) | with_reducible refine AW.at_region _ ?_ | refine AW.at_draw 1 mixed 0 [[], [0], [0, 1], [0, 1, 2], [], [], [5], [0, 1, 2, 3, 4, 5, 6], [0, 1, 2, 3, 4, 5, 6, 7]] qR ?_)
  all_goals first | (exfalso; omega) | skip
  refine AW.loopP (fun (q : Nat) => q ≤ gt.length) (fun (q : Nat) => (pu (pu (pu (pu (fun _ => .any) 0 (.ptr 0 0)) 22 (.t (.lst (gt.map tTd)))) 23 (i64 (gt.map tTd).length)) 24 (i64 q))) (fun (q : Nat) => [.box 29 [i64 h.ticket, .sl 1 0 m, .t (.lst (gl.map tWt)), .sl 2 0 k], .row 0 66 5 ((h.chans.set j ⟨g1, g2, g3, g4, gb⟩).map tCh), .row 0 50 4 ((tellL h.done (gt.take q)).map tR)]) (fun (q : Nat) => gt.length - q) (0) ?_ ?_ ?_
  · exact Nat.zero_le _
  · exact Wk.cq 3
  · intro q hq
    by_cases hi : q < gt.length
    · obtain ⟨⟨th, ⟨ra, rb, rc, rd⟩⟩, hx⟩ : ∃ x, gt[q]? = some x := ⟨_, List.getElem?_eq_getElem hi⟩
      have hs := tellL_next (d := h.done) hx
      have hD : (tellL h.done (gt.take q)).length = k := by rw [tellL_len, hk]
      have cN := note_c m k ⟨h.ticket, h.chans.set j ⟨g1, g2, g3, g4, gb⟩, gl, tellL h.done (gt.take q)⟩ th ⟨ra, rb, rc, rd⟩ hD hk1
      dsimp only [hlH, aR] at cN hs
      rw [← hs] at cN
      generalize tellL h.done (gt.take q) = D at *
      repeat' (first | ((with_reducible refine kAL ?_); (first | (refine kL 0 rfl ?_; (first | refine A_mt rfl rfl rfl rfl ?_ | refine A_move rfl rfl _ (.inl rfl) (y := .ptr _ _) rfl ?_)) | (refine kL 105 rfl ?_; (first | refine A_cmp (d := 25) rfl rfl (c := true) .lss 3 3 _ _ rfl rfl rfl (by exact congrArg some (decide_eq_true (by (try (dsimp only; fail_if_success done)); omega))) ?_ | refine A_add rfl rfl 3 3 _ _ rfl rfl rfl (by exact wi) ?_)) | (refine kL 3046 rfl ?_; refine A_idx rfl rfl 95 _ _ rfl ud95 inf124 (by decide) (by exact .inr rfl) rfl (by omega) _ (by with_reducible exact Int.toNat_natCast _) (by exact map_get (by assumption)) rfl (cs' := [_, _, _, _, _]) rfl ?_) | refine A_load_lp_agg rfl rfl 124 _ rfl ud124 rfl inf124 rfl (us' := [_, _, _, _, _]) rfl rfl ?_ | refine A_alloc rfl rfl 124 rfl inf124 (cs := [.t (.v (.int .i64 0)), .t (.v (.int .i64 0)), .t (.v (.int .i64 0)), .t (.v (.int .i64 0)), .t (.v (.int .i64 0))]) rfl (.push qL qN) ?_ | refine A_store rfl rfl 124 _ _ rfl inf124 rfl rfl rfl rfl (Nat.le_of_ble_eq_true rfl) qN qN ?_ | (refine kL 3972 rfl ?_; (first | refine A_field rfl rfl 124 _ 0 rfl ud124 rfl inf3 (by decide) 0 rfl rfl ?_ | refine A_field rfl rfl 124 _ 1 rfl ud124 rfl inf50 (by decide) 1 rfl rfl ?_)) | refine A_load rfl rfl 3 _ rfl ud3 rfl rfl rfl rfl ?_ | refine A_load_agg rfl rfl 50 _ rfl ud50 rfl inf50 rfl rfl (us' := [_, _, _, _]) rfl rfl ?_ | (refine kL 1194 rfl ?_; refine A_callio rfl rfl Try.func37 (by kernel_rfl) (by kernel_rfl) rfl [0, 1, 2] (by decide) (cN) (by repeat (first | exact .nil | refine .cons rfl ?_ ?_ | exact .row | refine .box ?_ | (first | exact .sel rfl | refine .cons ?_ ?_ | exact .t _))) (by ((repeat (first | exact .nil | exact .ptr rfl | refine .cons ?_ ?_ | exact .t _ | refine .aggL ?_)); (first | done | fail))) qL (by (try simp only [setSel, upO, upA, upF, gIO, List.map_cons, List.map_nil, List.drop_succ_cons, List.drop_zero, List.drop_nil, List.length_cons, List.length_nil, List.set_cons_zero, List.set_cons_succ, List.cons_append, List.nil_append, List.append_nil, List.getElem?_cons_zero, List.getElem?_cons_succ, List.getElem?_nil, Nat.zero_add, Nat.reduceAdd, Nat.reduceSub]); rfl) (by (try simp only [setSel, upO, upA, upF, gIO, List.map_cons, List.map_nil, List.drop_succ_cons, List.drop_zero, List.drop_nil, List.length_cons, List.length_nil, List.set_cons_zero, List.set_cons_succ, List.cons_append, List.nil_append, List.append_nil, List.getElem?_cons_zero, List.getElem?_cons_succ, List.getElem?_nil, Nat.zero_add, Nat.reduceAdd, Nat.reduceSub]); rfl) ?_) | refine AL.nil ?_)) | (with_reducible (first | refine wk0 ?_ | refine wk1 ?_ | refine wk2 ?_ | refine wk5 ?_ | refine wkd ?_)) | refine kct rfl ?_ | with_reducible refine AW.at_region _ ?_)
      all_goals first | (exfalso; omega) | skip
      refine ⟨q + 1, by omega, by omega, ?_⟩
      exact Wk.cq 3
    · have e : q = gt.length := by omega
      subst e
      rw [List.take_length] at *
      repeat' (first | ((with_reducible refine kAL ?_); (first | refine A_cmp (d := 25) rfl rfl (c := false) .lss 3 3 _ _ rfl rfl rfl (by exact congrArg some (decide_eq_false (by (try (dsimp only; fail_if_success done)); omega))) ?_ | refine AL.nil ?_)) | (with_reducible (first | refine wk0 ?_ | refine wk2 ?_ | refine wk4 ?_ | refine wk7 ?_ | refine wka ?_ | refine wkc ?_)) | refine kcf rfl ?_ | with_reducible refine AW.at_region _ ?_)
      all_goals first | (exfalso; omega) | (exact Fin.q Try.results69 .nil [])
end Go.Proofs.Ytphcebioiipdpaa


namespace Go.Proofs.Ytphcebioiipdpaa
set_option linter.unusedVariables false
set_option linter.unusedSimpArgs false
set_option linter.unnecessarySimpa false
open Go.RowKit
set_option maxHeartbeats 32000000
attribute [local irreducible] AL AW RG Fin C Cd Cio thenQ blockQ retQ
set_option maxRecDepth 100000
def handK (l : List DChan) : Nat → List Int
  | 0 => []
  | k + 1 => if (l.getD k default).used then handK l k ++ [hdl k (l.getD k default).gen] else handK l k
def handH (h : DHall) : List Int := handK h.chans h.chans.length
theorem handK_next {l : List DChan} {k : Nat} {x : DChan} (hx : l[k]? = some x) : handK l (k + 1) = if x.used then handK l k ++ [hdl k x.gen] else handK l k := by
  show (if (l.getD k default).used then _ else _) = _
  rw [getD_of hx]
theorem handK_len (l : List DChan) : ∀ k, (handK l k).length ≤ k
  | 0 => Nat.le_refl _
  | k + 1 => by have := handK_len l k; unfold handK; split <;> simp <;> omega
structure HnS where
  q : Nat
  k : Nat
  O : List Int
set_option maxHeartbeats 8000000 in
theorem handles_c (h : DHall) (h0 : h.chans.length ≤ 2932031007402) : Cd Try.prog 20 [aHl h] (.sl 0 0 (handH h).length) [.row 0 3 1 ((handH h).map tI)] := by
  have h1 : (h.chans.map tCh).length = h.chans.length := List.length_map _
  refine Cd.enter' Try.func20 rfl Try.ntmps20 rfl ?_
  repeat' (first | ((with_reducible refine kAL ?_); (first | refine A_box rfl rfl 29 _ rfl rfl (.push qL qN) ?_ | refine A_move rfl rfl _ (.inr rfl) (y := .nl) rfl ?_ | refine A_field rfl rfl 29 _ 1 rfl ud29 rfl inf25 (by decide) 1 rfl rfl ?_ | refine A_load rfl rfl 25 _ rfl ud25 rfl rfl rfl rfl ?_ | refine A_len rfl rfl 25 _ rfl ud25 rfl ?_ | refine A_mt rfl rfl rfl rfl ?_ | refine AL.nil ?_)) | with_reducible refine AW.at_region _ ?_ | (with_reducible (first | refine wk0 ?_ | refine wk1 ?_ | refine wk2 ?_)))
  all_goals first | (exfalso; omega) | skip
  refine AW.wk (Wk.own 3 rfl 3 1 (.push rfl rfl)) ?_
  refine AW.loopP (fun (x : HnS) => x.q ≤ h.chans.length ∧ x.O = handK h.chans x.q) (fun (x : HnS) => (pu (pu (pu (pu (pu (fun _ => .any) 1 (.ptr 0 0)) 3 (.sl 1 x.k x.O.length)) 7 (.ln (h.chans.map tCh))) 8 (i64 (h.chans.map tCh).length)) 9 (i64 x.q))) (fun (x : HnS) => [.box 29 [i64 h.ticket, .ln (h.chans.map tCh), .ln (h.waits.map tWt), .ln (h.done.map tR)], .row x.k 3 1 (x.O.map tI)]) (fun (x : HnS) => h.chans.length - x.q) (⟨0, 0, []⟩) ?_ ?_ ?_
  · exact ⟨Nat.zero_le _, rfl⟩
  · exact Wk.cq 2
  · rintro ⟨q, k, O⟩ ⟨h2, h3⟩
    dsimp only at h2 h3 ⊢
    have hO := handK_len h.chans q
    rw [← h3] at hO
    have hO2 : (O.map tI).length = O.length := List.length_map _
    by_cases hq : q < h.chans.length
    · obtain ⟨⟨g, cap, used, closed, buf⟩, hc⟩ : ∃ c, h.chans[q]? = some c := ⟨_, List.getElem?_eq_getElem hq⟩
      have hn := handK_next hc
      rw [← h3] at hn
      dsimp only at hn
      cases used
      · repeat' (first | ((with_reducible refine kAL ?_); (first | refine A_as rfl rfl rfl rfl ?_ | refine A_mt rfl rfl rfl rfl ?_ | (refine kL 105 rfl ?_; (first | refine A_cmp (d := 10) rfl rfl (c := true) .lss 3 3 _ _ rfl rfl rfl (by exact congrArg some (decide_eq_true (by (try (dsimp only; fail_if_success done)); omega))) ?_ | refine A_add rfl rfl 3 3 _ _ rfl rfl rfl (by exact wi) ?_)) | (refine kL 806 rfl ?_; refine A_idx rfl rfl 25 _ _ rfl ud25 inf66 (by decide) (by exact .inl rfl) rfl (by omega) _ (by with_reducible exact Int.toNat_natCast _) (by exact map_get (by assumption)) rfl (cs' := [_, _, _, _, _]) rfl ?_) | refine A_load_lp_agg rfl rfl 66 _ rfl ud66 rfl inf66 rfl (us' := [_, _, _, _, _]) rfl rfl ?_ | refine A_alloc rfl rfl 66 rfl inf66 (cs := [.t (.v (.int .i64 0)), .t (.v (.int .i64 0)), .t (.v (.bool false)), .t (.v (.bool false)), AV.nl]) rfl (.push qL qN) ?_ | refine A_store rfl rfl 66 _ _ rfl inf66 rfl rfl rfl rfl (Nat.le_of_ble_eq_true rfl) qN qN ?_ | refine A_field rfl rfl 66 _ 2 rfl ud66 rfl inf4 (by decide) 2 rfl rfl ?_ | refine A_load rfl rfl 4 _ rfl ud4 rfl rfl rfl rfl ?_ | refine AL.nil ?_)) | with_reducible refine AW.at_region _ ?_ | (with_reducible (first | refine wk0 ?_ | refine wk1 ?_ | refine wk2 ?_ | refine wk5 ?_ | refine wkd ?_)) | refine kct rfl ?_ | refine kcf rfl ?_)
        all_goals first | (exfalso; omega) | skip
        refine ⟨⟨q + 1, k, O⟩, ⟨by dsimp only; omega, by dsimp only; rw [hn]; rfl⟩, by dsimp only; omega, ?_⟩
        exact Wk.cq 2
      · have cH := handle_c q g
        repeat' (first | ((with_reducible refine kAL ?_); (first | (refine kL 1 rfl ?_; (first | refine A_as rfl rfl rfl rfl ?_ | refine A_move rfl rfl _ (.inr rfl) (y := .sl _ _ _) rfl ?_)) | (refine kL 12 rfl ?_; refine A_append rfl rfl _ _ 22 rfl ud22 inf3 rfl rfl rfl (by first | (simp <;> fail) | fail) (by exact .all rfl (by rfl)) qB qB (by exact app_one (f := tI) (x := _) (by rfl)) qN qS ?_) | (refine kL 0 rfl ?_; (first | refine A_mt rfl rfl rfl rfl ?_ | refine A_move rfl rfl _ (.inl rfl) (y := .sl _ _ _) rfl ?_)) | (refine kL 105 rfl ?_; (first | refine A_cmp (d := 10) rfl rfl (c := true) .lss 3 3 _ _ rfl rfl rfl (by exact congrArg some (decide_eq_true (by (try (dsimp only; fail_if_success done)); omega))) ?_ | refine A_add rfl rfl 3 3 _ _ rfl rfl rfl (by exact wi) ?_)) | (refine kL 806 rfl ?_; refine A_idx rfl rfl 25 _ _ rfl ud25 inf66 (by decide) (by exact .inl rfl) rfl (by omega) _ (by with_reducible exact Int.toNat_natCast _) (by exact map_get (by assumption)) rfl (cs' := [_, _, _, _, _]) rfl ?_) | refine A_load_lp_agg rfl rfl 66 _ rfl ud66 rfl inf66 rfl (us' := [_, _, _, _, _]) rfl rfl ?_ | refine A_alloc rfl rfl 66 rfl inf66 (cs := [.t (.v (.int .i64 0)), .t (.v (.int .i64 0)), .t (.v (.bool false)), .t (.v (.bool false)), AV.nl]) rfl (.push qL qN) ?_ | refine A_store rfl rfl 66 _ _ rfl inf66 rfl rfl rfl rfl (Nat.le_of_ble_eq_true rfl) qN qN ?_ | (refine kL 2116 rfl ?_; (first | refine A_field rfl rfl 66 _ 2 rfl ud66 rfl inf4 (by decide) 2 rfl rfl ?_ | refine A_field rfl rfl 66 _ 0 rfl ud66 rfl inf3 (by decide) 0 rfl rfl ?_)) | refine A_load rfl rfl 4 _ rfl ud4 rfl rfl rfl rfl ?_ | refine A_load rfl rfl 3 _ rfl ud3 rfl rfl rfl rfl ?_ | (refine kL 1386 rfl ?_; refine A_cl rfl rfl Try.func43 rfl (cH) ?_) | (refine kL 719 rfl ?_; refine A_lit rfl rfl 22 1 _ rfl ud22 inf3 (.cons rfl .nil) (els := [[_]]) rfl (by exact (rfl : _ = List.map tI [_])) rfl (Nat.ne_of_beq_eq_false rfl) (Nat.le_of_ble_eq_true rfl) (Nat.le_of_ble_eq_true rfl) (.push qL qN) ?_) | refine AL.nil ?_)) | with_reducible refine AW.at_region _ ?_ | (with_reducible (first | refine wk0 ?_ | refine wk1 ?_ | refine wk2 ?_ | refine wk5 ?_ | refine wkd ?_)) | refine kct rfl ?_)
        all_goals first | (exfalso; omega) | skip
        refine ⟨⟨q + 1, k + 1, O ++ [hdl q g]⟩, ⟨by dsimp only; omega, by dsimp only; rw [hn]; rfl⟩, by dsimp only; omega, ?_⟩
        rw [List.length_append, List.length_singleton]
        exact Wk.cq 2
    · have e : q = h.chans.length := by omega
      subst e
      subst h3
      repeat' (first | ((with_reducible refine kAL ?_); (first | refine A_move rfl rfl _ (.inr rfl) (y := .sl _ _ _) rfl ?_ | refine A_move rfl rfl _ (.inl rfl) (y := .sl _ _ _) rfl ?_ | refine A_cmp (d := 10) rfl rfl (c := false) .lss 3 3 _ _ rfl rfl rfl (by exact congrArg some (decide_eq_false (by (try (dsimp only; fail_if_success done)); omega))) ?_ | refine AL.nil ?_)) | with_reducible refine AW.at_region _ ?_ | (with_reducible (first | refine wk0 ?_ | refine wk2 ?_ | refine wk4 ?_ | refine wk7 ?_ | refine wk9 ?_ | refine wkb ?_ | refine wkc ?_)) | refine kcf rfl ?_)
      all_goals first | (exfalso; omega) | (exact Fin.q Try.results20 (.cons (.tmp rfl) .nil) [1])
end Go.Proofs.Ytphcebioiipdpaa


namespace Go.Proofs.Ytphcebioiipdpaa
set_option linter.unusedVariables false
set_option linter.unusedSimpArgs false
set_option linter.unnecessarySimpa false
open Go.RowKit
set_option maxHeartbeats 32000000
attribute [local irreducible] AL AW RG Fin C Cd Cio thenQ blockQ retQ
set_option maxRecDepth 100000
def stC (s : List Int) (p i : Nat) : List DChan := (List.range p).map fun j => if j < i ∧ j < s.length then ⟨1, s.getD j 0, true, false, []⟩ else ⟨0, 0, false, false, []⟩
theorem stC_len (s : List Int) (p i : Nat) : (stC s p i).length = p := by simp [stC]
theorem stC_get (s : List Int) {p i j : Nat} (h : j < p) : (stC s p i)[j]? = some (if j < i ∧ j < s.length then ⟨1, s.getD j 0, true, false, []⟩ else ⟨0, 0, false, false, []⟩) := by unfold stC; rw [List.getElem?_map, List.getElem?_range h]; rfl
theorem stC_zero (s : List Int) (p : Nat) : stC s p 0 = List.replicate p ⟨0, 0, false, false, []⟩ := by
  refine List.ext_getElem? fun j => ?_
  by_cases h : j < p
  · rw [stC_get s h, List.getElem?_replicate, if_pos h, if_neg (by omega)]
  · rw [List.getElem?_eq_none (by rw [stC_len]; omega), List.getElem?_eq_none (by simp; omega)]
theorem stC_next {s : List Int} {p i : Nat} {x : Int} (hi : i < p) (hx : s[i]? = some x) : stC s p (i + 1) = (stC s p i).set i ⟨1, x, true, false, []⟩ := by
  have hl := get_lt hx
  refine List.ext_getElem? fun j => ?_
  rw [List.getElem?_set]
  by_cases h : j < p
  · rw [stC_get s h, stC_get s h, stC_len]
    by_cases e : i = j
    · subst e
      rw [if_pos rfl, if_pos hi, if_pos ⟨by omega, hl⟩, List.getD_eq_getElem?_getD, hx]; rfl
    · rw [if_neg e]
      by_cases q : j < i ∧ j < s.length
      · rw [if_pos q, if_pos ⟨by omega, q.2⟩]
      · rw [if_neg q, if_neg (by omega)]
  · rw [List.getElem?_eq_none (by rw [stC_len]; omega), if_neg (by omega), List.getElem?_eq_none (by rw [stC_len]; omega)]
theorem stC_end {s : List Int} {p i : Nat} (h : ¬ (i < p ∧ i < s.length)) (hp : i ≤ p) : stC s p i = stC s p p := by
  refine List.ext_getElem? fun j => ?_
  by_cases hj : j < p
  · rw [stC_get s hj, stC_get s hj]
    by_cases q : j < s.length
    · by_cases e : j < i
      · rw [if_pos ⟨e, q⟩, if_pos ⟨hj, q⟩]
      · omega
    · rw [if_neg (by omega), if_neg (by omega)]
  · rw [List.getElem?_eq_none (by rw [stC_len]; omega), List.getElem?_eq_none (by rw [stC_len]; omega)]
def plN (c : DConf) : Nat := (max 0 (min c.chans 8)).toNat
def thN (c : DConf) : Nat := (max 0 (min c.threads 64)).toNat
theorem plN_e (c : DConf) : ((plN c : Nat) : Int) = max 0 (min c.chans 8) ∧ plN c ≤ 8 := by unfold plN; omega
theorem thN_e (c : DConf) : ((thN c : Nat) : Int) = max 0 (min c.threads 64) ∧ thN c ≤ 64 := by unfold thN; omega
attribute [local irreducible] stC plN thN
set_option maxHeartbeats 8000000 in
theorem rstart_c (c : DConf) (hs0 : c.start.length ≤ 1152921504606846976) : Cd Try.prog 14 [aCf c] (.agg [i64 0, .sl 0 0 (plN c), .sl 1 0 (thN c), .sl 2 0 (thN c)]) [.row 0 66 5 ((stC c.start (plN c) (plN c)).map tCh), .row 0 43 4 ((List.replicate (thN c) (⟨false, 0, 0, []⟩ : DWait)).map tWt), .row 0 50 4 ((List.replicate (thN c) (⟨0, 0, 0, 0⟩ : Rst)).map tR)] := by
  have h1 : (c.start.map tI).length = c.start.length := List.length_map _
  obtain ⟨hp, hp8⟩ := plN_e c
  obtain ⟨ht, ht64⟩ := thN_e c
  refine Cd.enter' Try.func14 rfl Try.ntmps14 rfl ?_
  repeat' (first | ((with_reducible refine kAL ?_); (first | refine A_box rfl rfl 24 _ rfl rfl (.push qL qN) ?_ | refine A_alloc rfl rfl 29 rfl inf29 (cs := [.t (.v (.int .i64 0)), AV.nl, AV.nl, AV.nl]) rfl (.push qL qN) ?_ | refine A_as rfl rfl rfl rfl ?_ | refine AL.nil ?_)) | ((with_reducible refine kRG ?_); (first | (refine kR 772 rfl ?_; (first | refine R_field rfl rfl 24 _ 2 rfl ud24 rfl inf3 (by decide) 2 rfl rfl ?_ | refine R_field rfl rfl 24 _ 1 rfl ud24 rfl inf3 (by decide) 1 rfl rfl ?_)) | refine R_load rfl rfl 3 _ rfl ud3 rfl rfl rfl rfl ?_ | (refine kR 12 rfl ?_; (first | refine R_min rfl rfl _ _ _ rfl rfl rfl ?_ | refine R_max rfl rfl _ _ _ rfl rfl rfl ?_)) | refine R_as rfl rfl rfl rfl ?_ | refine R_mt rfl rfl rfl rfl ?_ | (refine kR 816 rfl ?_; refine R_make (N := 2) rfl rfl 25 _ _ rfl ud25 inf66 rfl (zs := [(.v (.int .i64 0)), (.v (.int .i64 0)), (.v (.bool false)), (.v (.bool false)), .lst []]) rfl rfl rfl (plN c) (by omega) (by omega) qB qB (by exact rep_map (f := tCh) (x := ⟨_, _, _, _, []⟩)) rfl qN ?_) | (refine kR 848 rfl ?_; refine R_make (N := 3) rfl rfl 26 _ _ rfl ud26 inf43 rfl (zs := [(.v (.bool false)), (.v (.int .i64 0)), (.v (.int .i64 0)), .lst []]) rfl rfl rfl (thN c) (by omega) (by omega) qB qB (by exact rep_map (f := tWt) (x := ⟨_, _, _, []⟩)) rfl qN ?_) | (refine kR 880 rfl ?_; refine R_make (N := 4) rfl rfl 27 _ _ rfl ud27 inf50 rfl (zs := [(.v (.int .i64 0)), (.v (.int .i64 0)), (.v (.int .i64 0)), (.v (.int .i64 0))]) rfl rfl rfl (thN c) (by omega) (by omega) qB qB (by exact rep_map (f := tR) (x := ⟨_, _, _, _⟩)) rfl qN ?_) | (refine kR 942 rfl ?_; refine R_build rfl rfl 29 _ rfl ud29 inf29 [(0, 1), (1, 1), (2, 1), (3, 1)] (by kernel_rfl) (zs := [.t (.v (.int .i64 0)), AV.nl, AV.nl, AV.nl]) rfl (.cons rfl (.cons rfl (.cons rfl .nil))) (cs := [_, _, _, _]) rfl ?_) | refine R_alloc (N := 5) rfl rfl 29 rfl inf29 (cs := [.t (.v (.int .i64 0)), AV.nl, AV.nl, AV.nl]) rfl rfl qN ?_ | refine R_store rfl rfl 29 _ _ rfl inf29 rfl rfl rfl rfl (Nat.le_of_ble_eq_true rfl) qN qN ?_ | refine RG.nil ⟨by kernel_rfl, ?_⟩)) | (with_reducible (first | refine wk0 ?_ | refine wk1 ?_ | refine wk2 ?_)) | with_reducible refine AW.at_region _ ?_ | refine AW.at_draw 1 mixed 0 [[], [0], [0, 1], [0, 1, 2], [], [4], [4, 5], [4, 5, 6], [0, 1, 2, 3], [0, 1, 2, 3, 4, 5, 6, 7, 8]] qR ?_ | refine AW.at_draw 2 mixed 4 [[], [0], [], [2], [], [4], [0, 1, 2, 3, 4, 5], [], [0, 1, 2, 3, 4, 5, 6, 7]] qR ?_)
  all_goals first | (exfalso; omega) | skip
  refine AW.loopP (fun (i : Nat) => i ≤ plN c) (fun (i : Nat) => (pu (pu (pu (pu (pu (fun _ => .any) 1 (.ptr 0 0)) 2 (.ptr 1 0)) 3 (i64 (plN c))) 5 (.ptr 5 0)) 6 (i64 i))) (fun (i : Nat) => [.box 24 [i64 c.kind, i64 c.threads, i64 c.chans, i64 c.cap, i64 c.nodes, i64 c.retire, i64 c.patience, i64 c.tags, i64 c.seqs, i64 c.gens, .ln (c.start.map tI)], .box 29 [i64 0, .nl, .nl, .nl], .row 0 66 5 ((stC c.start (plN c) i).map tCh), .row 0 43 4 ((List.replicate (thN c) (⟨false, 0, 0, []⟩ : DWait)).map tWt), .row 0 50 4 ((List.replicate (thN c) (⟨0, 0, 0, 0⟩ : Rst)).map tR), .box 29 [i64 0, .sl 2 0 (plN c), .sl 3 0 (thN c), .sl 4 0 (thN c)]]) (fun (i : Nat) => plN c - i) (0) ?_ ?_ ?_
  · exact Nat.zero_le _
  · rw [stC_zero, hp]
    exact Wk.cq 6
  · intro i hi
    have hL := stC_len c.start (plN c) i
    by_cases hc1 : i < plN c ∧ i < c.start.length
    · obtain ⟨x, hx⟩ : ∃ x, c.start[i]? = some x := ⟨_, List.getElem?_eq_getElem hc1.2⟩
      have hg : (stC c.start (plN c) i)[i]? = some ⟨0, 0, false, false, []⟩ := by rw [stC_get _ hc1.1, if_neg (by omega)]
      have hg1 : ((stC c.start (plN c) i).set i ⟨1, 0, false, false, []⟩)[i]? = some ⟨1, 0, false, false, []⟩ := by rw [List.getElem?_set, if_pos rfl, if_pos (by omega)]
      have hg2 : (((stC c.start (plN c) i).set i ⟨1, 0, false, false, []⟩).set i ⟨1, x, false, false, []⟩)[i]? = some ⟨1, x, false, false, []⟩ := by rw [List.getElem?_set, if_pos rfl, if_pos (by rw [List.length_set]; omega)]
      have hs : stC c.start (plN c) (i + 1) = (((stC c.start (plN c) i).set i ⟨1, 0, false, false, []⟩).set i ⟨1, x, false, false, []⟩).set i ⟨1, x, true, false, []⟩ := by rw [stC_next hc1.1 hx, List.set_set, List.set_set]
      generalize stC c.start (plN c) i = L0 at *
      clear hp ht hs0
      repeat' (first | ((with_reducible refine kAL ?_); (first | refine A_as rfl rfl rfl rfl ?_ | refine A_mt rfl rfl rfl rfl ?_ | (refine kL 105 rfl ?_; (first | refine A_cmp (d := 24) rfl rfl (c := true) .lss 3 3 _ _ rfl rfl rfl (by exact congrArg some (decide_eq_true (by (try (dsimp only; fail_if_success done)); omega))) ?_ | refine A_cmp (d := 30) rfl rfl (c := true) .lss 3 3 _ _ rfl rfl rfl (by exact congrArg some (decide_eq_true (by (try (dsimp only; fail_if_success done)); omega))) ?_ | refine A_add rfl rfl 3 3 _ _ rfl rfl rfl (by exact wi) ?_)) | refine A_field rfl rfl 24 _ 10 rfl ud24 rfl inf22 (by decide) 10 rfl rfl ?_ | refine A_load rfl rfl 22 _ rfl ud22 rfl rfl rfl rfl ?_ | refine A_len rfl rfl 22 _ rfl ud22 rfl ?_ | (refine kL 19 rfl ?_; refine A_pkt rfl rfl _ _ _ rfl rfl rfl ?_) | refine A_field rfl rfl 29 _ 1 rfl ud29 rfl inf25 (by decide) 1 rfl rfl ?_ | refine A_load rfl rfl 25 _ rfl ud25 rfl rfl rfl rfl ?_ | (refine kL 806 rfl ?_; refine A_idx_sl rfl rfl 25 _ _ rfl ud25 inf66 rfl rfl (by (simp; omega)) rfl (by omega) _ (by with_reducible exact Int.toNat_natCast _) (by omega) ?_) | (refine kL 2116 rfl ?_; (first | refine A_field rfl rfl 66 _ 0 rfl ud66 rfl inf3 (by decide) 0 rfl rfl ?_ | refine A_field rfl rfl 66 _ 2 rfl ud66 rfl inf4 (by decide) 2 rfl rfl ?_)) | (refine kL 99 rfl ?_; refine A_store_rp rfl rfl 3 _ _ rfl inf3 (by decide) rfl rfl (by exact map_get (by assumption)) rfl rfl rfl (Nat.le_of_ble_eq_true rfl) (by exact map_set (f := tCh) (x := ⟨1, 0, false, false, []⟩)) qN ?_) | (refine kL 131 rfl ?_; refine A_store_rp rfl rfl 4 _ _ rfl inf4 (by decide) rfl rfl (by exact map_get (by assumption)) rfl rfl rfl (Nat.le_of_ble_eq_true rfl) (by exact map_set (f := tCh) (x := ⟨1, x, true, false, []⟩)) qN ?_) | refine AL.nil ?_)) | ((with_reducible refine kRG ?_); (first | refine R_field rfl rfl 24 _ 10 rfl ud24 rfl inf22 (by decide) 10 rfl rfl ?_ | refine R_load_lp rfl rfl 3 _ rfl ud3 rfl rfl rfl ?_ | refine R_mt rfl rfl rfl rfl ?_ | refine R_field rfl rfl 29 _ 1 rfl ud29 rfl inf25 (by decide) 1 rfl rfl ?_ | refine R_load rfl rfl 25 _ rfl ud25 rfl rfl rfl rfl ?_ | refine R_load rfl rfl 22 _ rfl ud22 rfl rfl rfl rfl ?_ | (refine kR 710 rfl ?_; refine R_idx rfl rfl 22 _ _ rfl ud22 inf3 (by decide) (by exact .inl rfl) rfl (by omega) _ (by with_reducible exact Int.toNat_natCast _) (by exact map_get (by assumption)) rfl (cs' := [_]) rfl ?_) | (refine kR 806 rfl ?_; refine R_idx_sl rfl rfl 25 _ _ rfl ud25 inf66 rfl rfl (by (simp; omega)) rfl (by omega) _ (by with_reducible exact Int.toNat_natCast _) (by omega) ?_) | refine R_field rfl rfl 66 _ 1 rfl ud66 rfl inf3 (by decide) 1 rfl rfl ?_ | (refine kR 99 rfl ?_; refine R_store_rp rfl rfl 3 _ _ rfl inf3 (by decide) rfl rfl (by exact map_get (by assumption)) rfl rfl rfl (Nat.le_of_ble_eq_true rfl) (by exact map_set (f := tCh) (x := ⟨1, x, false, false, []⟩)) qN ?_) | refine RG.nil ⟨by kernel_rfl, ?_⟩)) | (with_reducible (first | refine wk0 ?_ | refine wk1 ?_ | refine wk2 ?_ | refine wk5 ?_ | refine wkd ?_)) | refine kct rfl ?_ | with_reducible refine AW.at_region _ ?_ | refine AW.at_draw 7 mixed 0 [[], [0], [], [], [3], [], [3, 4, 5], [3, 4, 5, 6], [0, 1, 2, 3, 4, 5, 6, 7], [0, 1, 2, 3, 4, 5, 6, 7, 8], [0, 1, 2, 3, 4, 5, 6, 7, 8, 9]] qR ?_)
      all_goals first | (exfalso; omega) | skip
      refine ⟨i + 1, by omega, by omega, ?_⟩
      rw [hs]
      exact Wk.cq 6
    · rw [← stC_end hc1 hi]
      repeat' (first | ((with_reducible refine kAL ?_); (first | refine A_mt rfl rfl rfl rfl ?_ | (refine kL 105 rfl ?_; (first | refine A_cmp (d := 30) rfl rfl (c := false) .lss 3 3 _ _ rfl rfl rfl (by exact congrArg some (decide_eq_false (by (try (dsimp only; fail_if_success done)); omega))) ?_ | refine A_cmp (d := 24) rfl rfl .lss 3 3 _ _ rfl rfl rfl rfl ?_)) | refine A_field rfl rfl 24 _ 10 rfl ud24 rfl inf22 (by decide) 10 rfl rfl ?_ | refine A_load rfl rfl 22 _ rfl ud22 rfl rfl rfl rfl ?_ | refine A_len rfl rfl 22 _ rfl ud22 rfl ?_ | (refine kL 19 rfl ?_; (first | refine A_pkt rfl rfl _ _ _ rfl rfl rfl ?_ | refine A_pkf rfl rfl _ _ _ rfl rfl rfl ?_)) | refine A_load_agg rfl rfl 29 _ rfl ud29 rfl inf29 rfl rfl (us' := [_, _, _, _]) rfl rfl ?_ | refine A_store rfl rfl 29 _ _ rfl inf29 rfl rfl rfl rfl (Nat.le_of_ble_eq_true rfl) qN qN ?_ | refine AL.nil ?_ | refine AL.skip rfl rfl ?_ | (refine AL.split 25 rfl (fun hb => ?_) (fun hb => ?_) <;> (try simp only [decide_eq_true_eq, decide_eq_false_iff_not, Bool.not_eq_true', Bool.not_eq_false'] at hb) <;> (first | refine AL.skip rfl rfl ?_ | refine AL.need rfl ?_)))) | (with_reducible (first | refine wk0 ?_ | refine wk2 ?_ | refine wk4 ?_ | refine wk7 ?_ | refine wk9 ?_ | refine wkb ?_ | refine wkc ?_)) | refine kcf rfl ?_ | with_reducible refine AW.at_region _ ?_)
      all_goals first | (exfalso; omega) | (exact Fin.q Try.results14 (.cons (.agg rfl rfl ud29 rfl inf29 (us := [_, _, _, _]) rfl rfl) .nil) [2, 3, 4])
end Go.Proofs.Ytphcebioiipdpaa


namespace Go.Proofs.Ytphcebioiipdpaa
set_option linter.unusedVariables false
set_option linter.unusedSimpArgs false
set_option linter.unnecessarySimpa false
open Go.RowKit
set_option maxHeartbeats 32000000
attribute [local irreducible] AL AW RG Fin C Cd Cio thenQ blockQ retQ
set_option maxRecDepth 100000
theorem stC_ge {s : List Int} {p i : Nat} (h : p ≤ i) : stC s p (i + 1) = stC s p i := by
  refine List.ext_getElem? fun j => ?_
  by_cases hj : j < p
  · rw [stC_get s hj, stC_get s hj]
    by_cases q : j < s.length
    · rw [if_pos ⟨by omega, q⟩, if_pos ⟨by omega, q⟩]
    · rw [if_neg (by omega), if_neg (by omega)]
  · rw [List.getElem?_eq_none (by rw [stC_len]; omega), List.getElem?_eq_none (by rw [stC_len]; omega)]
theorem stC_full (s : List Int) (p : Nat) : stC s p s.length = stC s p p := by
  refine List.ext_getElem? fun j => ?_
  by_cases hj : j < p
  · rw [stC_get s hj, stC_get s hj]
    by_cases q : j < s.length
    · rw [if_pos ⟨q, q⟩, if_pos ⟨hj, q⟩]
    · rw [if_neg (by omega), if_neg (by omega)]
  · rw [List.getElem?_eq_none (by rw [stC_len]; omega), List.getElem?_eq_none (by rw [stC_len]; omega)]
set_option maxHeartbeats 8000000 in
theorem hstart_c (c : DConf) (hs0 : c.start.length ≤ 1152921504606846976) : Cd Try.prog 13 [aCf c] (.agg [i64 0, .sl 0 0 (plN c), .sl 1 0 (thN c), .sl 2 0 (thN c)]) [.row 0 66 5 ((stC c.start (plN c) (plN c)).map tCh), .row 0 43 4 ((List.replicate (thN c) (⟨false, 0, 0, []⟩ : DWait)).map tWt), .row 0 50 4 ((List.replicate (thN c) (⟨0, 0, 0, 0⟩ : Rst)).map tR)] := by
  have h1 : (c.start.map tI).length = c.start.length := List.length_map _
  have hp : ((plN c : Nat) : Int) = max (min c.chans 8) 0 := by have := plN_e c; omega
  have ht : ((thN c : Nat) : Int) = max (min c.threads 64) 0 := by have := thN_e c; omega
  have hp8 := (plN_e c).2
  have ht64 := (thN_e c).2
  generalize plN c = p at *
  generalize thN c = th at *
  refine Cd.enter' Try.func13 rfl Try.ntmps13 rfl ?_
  repeat' (first | ((with_reducible refine kAL ?_); (first | refine A_box rfl rfl 24 _ rfl rfl (.push qL qN) ?_ | refine A_alloc rfl rfl 29 rfl inf29 (cs := [.t (.v (.int .i64 0)), AV.nl, AV.nl, AV.nl]) rfl (.push qL qN) ?_ | refine A_field rfl rfl 24 _ 10 rfl ud24 rfl inf22 (by decide) 10 rfl rfl ?_ | refine A_load rfl rfl 22 _ rfl ud22 rfl rfl rfl rfl ?_ | refine A_len rfl rfl 22 _ rfl ud22 rfl ?_ | refine A_mt rfl rfl rfl rfl ?_ | refine AL.nil ?_)) | ((with_reducible refine kRG ?_); (first | (refine kR 772 rfl ?_; (first | refine R_field rfl rfl 24 _ 2 rfl ud24 rfl inf3 (by decide) 2 rfl rfl ?_ | refine R_field rfl rfl 24 _ 1 rfl ud24 rfl inf3 (by decide) 1 rfl rfl ?_)) | refine R_load rfl rfl 3 _ rfl ud3 rfl rfl rfl rfl ?_ | (refine kR 12 rfl ?_; (first | refine R_min rfl rfl _ _ _ rfl rfl rfl ?_ | refine R_max rfl rfl _ _ _ rfl rfl rfl ?_)) | refine R_as rfl rfl rfl rfl ?_ | refine R_mt rfl rfl rfl rfl ?_ | (refine kR 816 rfl ?_; refine R_make (N := 2) rfl rfl 25 _ _ rfl ud25 inf66 rfl (zs := [(.v (.int .i64 0)), (.v (.int .i64 0)), (.v (.bool false)), (.v (.bool false)), .lst []]) rfl rfl rfl p (by omega) (by omega) qB qB (by exact rep_map (f := tCh) (x := ⟨_, _, _, _, []⟩)) rfl qN ?_) | (refine kR 848 rfl ?_; refine R_make (N := 3) rfl rfl 26 _ _ rfl ud26 inf43 rfl (zs := [(.v (.bool false)), (.v (.int .i64 0)), (.v (.int .i64 0)), .lst []]) rfl rfl rfl th (by omega) (by omega) qB qB (by exact rep_map (f := tWt) (x := ⟨_, _, _, []⟩)) rfl qN ?_) | (refine kR 880 rfl ?_; refine R_make (N := 4) rfl rfl 27 _ _ rfl ud27 inf50 rfl (zs := [(.v (.int .i64 0)), (.v (.int .i64 0)), (.v (.int .i64 0)), (.v (.int .i64 0))]) rfl rfl rfl th (by omega) (by omega) qB qB (by exact rep_map (f := tR) (x := ⟨_, _, _, _⟩)) rfl qN ?_) | (refine kR 942 rfl ?_; refine R_build rfl rfl 29 _ rfl ud29 inf29 [(0, 1), (1, 1), (2, 1), (3, 1)] (by kernel_rfl) (zs := [.t (.v (.int .i64 0)), AV.nl, AV.nl, AV.nl]) rfl (.cons rfl (.cons rfl (.cons rfl .nil))) (cs := [_, _, _, _]) rfl ?_) | refine R_alloc (N := 5) rfl rfl 29 rfl inf29 (cs := [.t (.v (.int .i64 0)), AV.nl, AV.nl, AV.nl]) rfl rfl qN ?_ | refine R_store rfl rfl 29 _ _ rfl inf29 rfl rfl rfl rfl (Nat.le_of_ble_eq_true rfl) qN qN ?_ | refine RG.nil ⟨by kernel_rfl, ?_⟩)) | (with_reducible (first | refine wk0 ?_ | refine wk1 ?_ | refine wk2 ?_)) | with_reducible refine AW.at_region _ ?_ | refine AW.at_draw 1 mixed 0 [[], [0], [0, 1], [0, 1, 2], [], [4], [4, 5], [4, 5, 6], [0, 1, 2, 3], [0, 1, 2, 3, 4, 5, 6, 7, 8]] qR ?_ | refine AW.at_draw 2 mixed 4 [[], [0], [], [2], [], [4], [0, 1, 2, 3, 4, 5], [], [0, 1, 2, 3, 4, 5, 6, 7]] qR ?_)
  all_goals first | (exfalso; omega) | skip
  refine AW.loopP (fun (i : Nat) => i ≤ c.start.length) (fun (i : Nat) => (pu (pu (pu (pu (pu (pu (pu (fun _ => .any) 1 (.ptr 0 0)) 2 (.ptr 1 0)) 3 (i64 p)) 5 (.ptr 5 0)) 24 (.ln (c.start.map tI))) 25 (i64 (c.start.map tI).length)) 26 (i64 i))) (fun (i : Nat) => [.box 24 [i64 c.kind, i64 c.threads, i64 c.chans, i64 c.cap, i64 c.nodes, i64 c.retire, i64 c.patience, i64 c.tags, i64 c.seqs, i64 c.gens, .ln (c.start.map tI)], .box 29 [i64 0, .nl, .nl, .nl], .row 0 66 5 ((stC c.start p i).map tCh), .row 0 43 4 ((List.replicate th (⟨false, 0, 0, []⟩ : DWait)).map tWt), .row 0 50 4 ((List.replicate th (⟨0, 0, 0, 0⟩ : Rst)).map tR), .box 29 [i64 0, .sl 2 0 p, .sl 3 0 th, .sl 4 0 th]]) (fun (i : Nat) => c.start.length - i) (0) ?_ ?_ ?_
  · exact Nat.zero_le _
  · rw [stC_zero, hp]
    exact Wk.cq 6
  · intro i hi
    have hL := stC_len c.start p i
    have hL2 : ((stC c.start p i).map tCh).length = p := by rw [List.length_map, hL]
    by_cases hc1 : i < c.start.length
    · obtain ⟨x, hx⟩ : ∃ x, c.start[i]? = some x := ⟨_, List.getElem?_eq_getElem hc1⟩
      by_cases hip : i < p
      · have hg : (stC c.start p i)[i]? = some ⟨0, 0, false, false, []⟩ := by rw [stC_get _ hip, if_neg (by omega)]
        have hs := stC_next hip hx
        generalize stC c.start p i = L0 at *
        clear hp ht hs0
        repeat' (first | ((with_reducible refine kAL ?_); (first | refine A_mt rfl rfl rfl rfl ?_ | (refine kL 105 rfl ?_; (first | refine A_cmp (d := 27) rfl rfl (c := true) .lss 3 3 _ _ rfl rfl rfl (by exact congrArg some (decide_eq_true (by (try (dsimp only; fail_if_success done)); omega))) ?_ | refine A_cmp (d := 33) rfl rfl (c := true) .lss 3 3 _ _ rfl rfl rfl (by exact congrArg some (decide_eq_true (by (try (dsimp only; fail_if_success done)); omega))) ?_ | refine A_add rfl rfl 3 3 _ _ rfl rfl rfl (by exact wi) ?_)) | (refine kL 710 rfl ?_; refine A_idx rfl rfl 22 _ _ rfl ud22 inf3 (by decide) (by exact .inl rfl) rfl (by omega) _ (by with_reducible exact Int.toNat_natCast _) (by exact map_get (by assumption)) rfl (cs' := [_]) rfl ?_) | refine A_load_lp rfl rfl 3 _ rfl ud3 rfl rfl rfl ?_ | refine A_as rfl rfl rfl rfl ?_ | refine A_field rfl rfl 29 _ 1 rfl ud29 rfl inf25 (by decide) 1 rfl rfl ?_ | refine A_load rfl rfl 25 _ rfl ud25 rfl rfl rfl rfl ?_ | (refine kL 2126 rfl ?_; refine A_build rfl rfl 66 _ rfl ud66 inf66 [(0, 1), (1, 1), (2, 1), (3, 1), (4, 1)] (by kernel_rfl) (zs := [.t (.v (.int .i64 0)), .t (.v (.int .i64 0)), .t (.v (.bool false)), .t (.v (.bool false)), AV.nl]) rfl (.cons rfl (.cons rfl (.cons rfl .nil))) (cs := [_, _, _, _, _]) rfl ?_) | (refine kL 806 rfl ?_; refine A_idx_sl rfl rfl 25 _ _ rfl ud25 inf66 rfl rfl (by (simp; omega)) rfl (by omega) _ (by with_reducible exact Int.toNat_natCast _) (by omega) ?_) | (refine kL 2115 rfl ?_; refine A_store_rp rfl rfl 66 _ _ rfl inf66 (by decide) rfl rfl (by exact map_get (by assumption)) rfl rfl rfl (Nat.le_of_ble_eq_true rfl) (by exact map_set (f := tCh) (x := ⟨1, x, true, false, []⟩)) qN ?_) | refine AL.nil ?_)) | (with_reducible (first | refine wk0 ?_ | refine wk1 ?_ | refine wk2 ?_ | refine wk5 ?_ | refine wkd ?_)) | refine kct rfl ?_ | with_reducible refine AW.at_region _ ?_)
        all_goals first | (exfalso; omega) | skip
        refine ⟨i + 1, by omega, by omega, ?_⟩
        rw [hs]
        exact Wk.cq 6
      · have hs : stC c.start p (i + 1) = stC c.start p i := stC_ge (by omega)
        generalize stC c.start p i = L0 at *
        clear hp ht
        repeat' (first | ((with_reducible refine kAL ?_); (first | refine A_mt rfl rfl rfl rfl ?_ | (refine kL 105 rfl ?_; (first | refine A_cmp (d := 27) rfl rfl (c := true) .lss 3 3 _ _ rfl rfl rfl (by exact congrArg some (decide_eq_true (by (try (dsimp only; fail_if_success done)); omega))) ?_ | refine A_cmp (d := 33) rfl rfl (c := false) .lss 3 3 _ _ rfl rfl rfl (by exact congrArg some (decide_eq_false (by (try (dsimp only; fail_if_success done)); omega))) ?_ | refine A_add rfl rfl 3 3 _ _ rfl rfl rfl (by exact wi) ?_)) | (refine kL 710 rfl ?_; refine A_idx rfl rfl 22 _ _ rfl ud22 inf3 (by decide) (by exact .inl rfl) rfl (by omega) _ (by with_reducible exact Int.toNat_natCast _) (by exact map_get (by assumption)) rfl (cs' := [_]) rfl ?_) | refine A_load_lp rfl rfl 3 _ rfl ud3 rfl rfl rfl ?_ | refine A_as rfl rfl rfl rfl ?_ | refine AL.nil ?_)) | (with_reducible (first | refine wk0 ?_ | refine wk1 ?_ | refine wk2 ?_ | refine wk5 ?_ | refine wkd ?_)) | refine kct rfl ?_ | refine kcf rfl ?_ | with_reducible refine AW.at_region _ ?_)
        all_goals first | (exfalso; omega) | skip
        refine ⟨i + 1, by omega, by omega, ?_⟩
        rw [hs]
        exact Wk.cq 6
    · have e : i = c.start.length := by omega
      subst e
      rw [stC_full]
      repeat' (first | ((with_reducible refine kAL ?_); (first | refine A_cmp (d := 27) rfl rfl (c := false) .lss 3 3 _ _ rfl rfl rfl (by exact congrArg some (decide_eq_false (by (try (dsimp only; fail_if_success done)); omega))) ?_ | refine A_load_agg rfl rfl 29 _ rfl ud29 rfl inf29 rfl rfl (us' := [_, _, _, _]) rfl rfl ?_ | refine A_store rfl rfl 29 _ _ rfl inf29 rfl rfl rfl rfl (Nat.le_of_ble_eq_true rfl) qN qN ?_ | refine AL.nil ?_)) | (with_reducible (first | refine wk0 ?_ | refine wk2 ?_ | refine wk4 ?_ | refine wk7 ?_ | refine wk9 ?_ | refine wkb ?_ | refine wkc ?_)) | refine kcf rfl ?_ | with_reducible refine AW.at_region _ ?_)
      all_goals first | (exfalso; omega) | (exact Fin.q Try.results13 (.cons (.agg rfl rfl ud29 rfl inf29 (us := [_, _, _, _]) rfl rfl) .nil) [2, 3, 4])
end Go.Proofs.Ytphcebioiipdpaa


namespace Go.Proofs.Ytphcebioiipdpaa
set_option linter.unusedVariables false
set_option linter.unusedSimpArgs false
set_option linter.unnecessarySimpa false
open Go.RowKit
theorem shutG_gen (c : DChan) (h : Int) (l : List DWait) (hu : c.used = true) : (shutG c h l).c.gen = c.gen ∧ (shutG c h l).c.cap = c.cap ∧ (shutG c h l).c.used = c.used ∧ (shutG c h l).c.buf = c.buf := by
  unfold shutG
  split
  · exact ⟨rfl, rfl, hu.symm, rfl⟩
  · exact ⟨rfl, rfl, rfl, rfl⟩
structure Wq (l : List DWait) : Prop where
  s : ∀ w ∈ l, w.cases.length ≤ 3
  off : ∀ w ∈ l, w.on = false → w = w0
theorem Wq.set {l : List DWait} (h : Wq l) {t : Nat} {w : DWait} (h1 : w.cases.length ≤ 3) (h2 : w.on = false → w = w0) : Wq (l.set t w) :=
  ⟨fun x hx => by rcases List.mem_or_eq_of_mem_set hx with hx | rfl; exact h.s x hx; exact h1, fun x hx => by rcases List.mem_or_eq_of_mem_set hx with hx | rfl; exact h.off x hx; exact h2⟩
theorem Wq.cut {l : List DWait} (h : Wq l) (t : Int) : Wq (cutW l t) := by
  unfold cutW; split
  · exact h.set (by decide) (fun _ => rfl)
  · exact h
theorem Wq.put {l : List DWait} (h : Wq l) (t : Int) {w : DWait} (hw : w.cases.length ≤ 3) : Wq (putW l t w) := by
  unfold putW; split
  · exact h.set hw (fun e => by cases e)
  · exact h
theorem Wq.doG {c : DChan} {x : Int} {l : List DWait} {d v : Int} (h : Wq l) : Wq (doG c x l d v).l := by
  rcases doG_all c x l d v with ⟨_, h2, _, _⟩ | ⟨t, m, w, z, _, _, hw, _, h1, h2, h3, _⟩
  · rw [h2]; exact h
  · rw [h2]; exact h.set (by decide) (fun _ => rfl)
structure HBd (k : Nat) (h : DHall) : Prop where
  tk : 0 ≤ h.ticket ∧ h.ticket ≤ k
  bl : ∀ x ∈ h.chans, x.buf.length ≤ k
  gn : ∀ x ∈ h.chans, 0 ≤ x.gen ∧ x.gen ≤ 4095
  w : Wq h.waits
theorem HBd.up {k k' : Nat} {h : DHall} (b : HBd k h) (hk : k ≤ k') : HBd k' h := ⟨⟨b.tk.1, by have := b.tk.2; omega⟩, fun x hx => Nat.le_trans (b.bl x hx) hk, b.gn, b.w⟩
theorem fnd_mem {h : DHall} {x : Int} (e : fndOk h x = true) : chA h (fndP h x) ∈ h.chans := by
  obtain ⟨n, c, _, _, hc, _, _, e3, e4, _⟩ := fnd_yes e
  rw [e3, e4]; exact List.mem_of_getElem? hc
theorem ixF_mem {α : Type} {p : α → Bool} {l : List α} {d : α} (h : 0 ≤ ixF p l) : l.getD (ixF p l).toNat d ∈ l ∧ p (l.getD (ixF p l).toNat d) = true := by
  obtain ⟨a, ha, hp⟩ := ixF_get p l h
  rw [getD_of ha]; exact ⟨List.mem_of_getElem? ha, hp⟩
structure Ln (p th : Nat) (h : DHall) : Prop where
  c : h.chans.length = p
  w : h.waits.length = th
  d : h.done.length = th
theorem HBd.ok {k p th : Nat} {h : DHall} (b : HBd k h) (l : Ln p th h) (hk : k ≤ 1000) (hp : p ≤ 1000) (ht : th ≤ 1000) : okHl h :=
  ⟨by rw [l.c]; omega, fun x hx => by have := b.bl x hx; omega, ⟨by rw [l.w]; omega, fun w hw => by have := b.w.s w hw; omega⟩, by rw [l.d]; omega⟩
theorem HBd.okQ {k : Nat} {h : DHall} (b : HBd k h) {q : DReq} (hq : sRq q) (hl : q.cases.length ≤ 5864062014805) : okQ h q :=
  ⟨hq.2.1, hq.2.2.1, hq.2.2.2.2.2, hl, by have := b.tk.1; omega, fun x hx => by have := b.gn x hx; unfold sI; omega⟩
end Go.Proofs.Ytphcebioiipdpaa


namespace Go.Proofs.Ytphcebioiipdpaa
set_option linter.unusedVariables false
set_option linter.unusedSimpArgs false
set_option linter.unnecessarySimpa false
open Go.RowKit Go.ChangeShapes Go.WideShapes
structure DMove where
  thread : Int
  req : DReq
  deriving DecidableEq, Inhabited
end Go.Proofs.Ytphcebioiipdpaa


namespace Go.Proofs.Ytphcebioiipdpaa
set_option linter.unusedVariables false
set_option linter.unusedSimpArgs false
set_option linter.unnecessarySimpa false
open Go.RowKit
def startH (c : DConf) : DHall := ⟨0, stC c.start (plN c) (plN c), List.replicate (thN c) ⟨false, 0, 0, []⟩, List.replicate (thN c) ⟨0, 0, 0, 0⟩⟩
theorem stC_mem {s : List Int} {p i : Nat} {x : DChan} (h : x ∈ stC s p i) : x.buf = [] ∧ (x.gen = 0 ∨ x.gen = 1) := by
  unfold stC at h
  obtain ⟨j, -, rfl⟩ := List.mem_map.1 h
  split <;> simp
theorem startH_bd (c : DConf) : HBd 0 (startH c) := by
  refine ⟨⟨Int.le_refl _, Int.le_refl _⟩, fun x hx => ?_, fun x hx => ?_, ⟨fun w hw => ?_, fun w hw _ => ?_⟩⟩
  · rw [(stC_mem hx).1]; exact Nat.zero_le _
  · rcases (stC_mem hx).2 with e | e <;> omega
  · rw [List.eq_of_mem_replicate hw]; exact Nat.zero_le _
  · rw [List.eq_of_mem_replicate hw]; rfl
theorem startH_ln (c : DConf) : Ln (plN c) (thN c) (startH c) := ⟨stC_len _ _ _, List.length_replicate, List.length_replicate⟩
theorem startH_ok (c : DConf) : okHl (startH c) := (startH_bd c).ok (startH_ln c) (by decide) (by have := (plN_e c).2; omega) (by have := (thN_e c).2; omega)
end Go.Proofs.Ytphcebioiipdpaa


namespace Go.Proofs.Ytphcebioiipdpaa
set_option linter.unusedVariables false
set_option linter.unusedSimpArgs false
set_option linter.unnecessarySimpa false
open Go.RowKit
set_option maxHeartbeats 32000000
attribute [local irreducible] AL AW RG Fin C Cd Cio thenQ blockQ retQ
set_option maxRecDepth 100000
def c12 : DConf := ⟨3, 2, 2, 1, 4, 1, 0, 9, 99, 3, [0]⟩
def h12 : DHall := ⟨0, [⟨1, 0, true, false, []⟩, ⟨0, 0, false, false, []⟩], [⟨false, 0, 0, []⟩, ⟨false, 0, 0, []⟩], [⟨0, 0, 0, 0⟩, ⟨0, 0, 0, 0⟩]⟩
def h12b : DHall := ⟨1, [⟨1, 0, true, false, []⟩, ⟨0, 0, false, false, []⟩], [⟨true, 0, 1, [⟨2, 8, 0⟩]⟩, ⟨false, 0, 0, []⟩], [⟨1, 0, 14, 0⟩, ⟨0, 0, 0, 0⟩]⟩
def h12c : DHall := ⟨1, [⟨1, 0, true, false, []⟩, ⟨0, 0, false, false, []⟩], [⟨false, 0, 0, []⟩, ⟨false, 0, 0, []⟩], [⟨1, 0, 0, 5⟩, ⟨1, 0, 0, 0⟩]⟩
theorem small12_c : Cd Try.prog 16 [] (fCf c12) [] := by
  dsimp only [fCf, c12]
  refine Cd.enter' Try.func16 rfl Try.ntmps16 rfl ?_
  repeat' (first | ((with_reducible refine kAL ?_); (first | (refine kL 719 rfl ?_; (refine A_lit (d := 1) rfl rfl 22 1 _ rfl ud22 inf3 (.cons rfl .nil) (els := [[_]]) rfl (by exact (rfl : _ = List.map tI [_])) rfl (Nat.ne_of_beq_eq_false rfl) (Nat.le_of_ble_eq_true rfl) (Nat.le_of_ble_eq_true rfl) (.push qL qN) ?_; (try refine AL.wk (Wk.freeze 1 rfl 1 rfl (by exact .all (by rfl)) qN) ?_))) | refine A_alloc rfl rfl 24 rfl inf24 (cs := [.t (.v (.int .i64 0)), .t (.v (.int .i64 0)), .t (.v (.int .i64 0)), .t (.v (.int .i64 0)), .t (.v (.int .i64 0)), .t (.v (.int .i64 0)), .t (.v (.int .i64 0)), .t (.v (.int .i64 0)), .t (.v (.int .i64 0)), .t (.v (.int .i64 0)), AV.nl]) rfl (.push qL qN) ?_ | (refine kL 782 rfl ?_; refine A_build rfl rfl 24 _ rfl ud24 inf24 [(0, 1), (1, 1), (2, 1), (3, 1), (4, 1), (5, 1), (6, 1), (7, 1), (8, 1), (9, 1), (10, 1)] (by kernel_rfl) (zs := [.t (.v (.int .i64 0)), .t (.v (.int .i64 0)), .t (.v (.int .i64 0)), .t (.v (.int .i64 0)), .t (.v (.int .i64 0)), .t (.v (.int .i64 0)), .t (.v (.int .i64 0)), .t (.v (.int .i64 0)), .t (.v (.int .i64 0)), .t (.v (.int .i64 0)), AV.nl]) rfl (.cons rfl (.cons rfl (.cons rfl (.cons rfl (.cons rfl (.cons rfl (.cons rfl (.cons rfl (.cons rfl (.cons rfl .nil)))))))))) (cs := [_, _, _, _, _, _, _, _, _, _, _]) rfl ?_) | refine A_store rfl rfl 24 _ _ rfl inf24 rfl rfl rfl rfl (Nat.le_of_ble_eq_true rfl) qN qN ?_ | refine AL.nil ?_)) | with_reducible refine AW.at_region _ ?_ | (with_reducible (first | refine wk0 ?_ | refine wk2 ?_ | refine wk9 ?_ | refine wkb ?_)))
  all_goals first | (exfalso; omega) | (exact Fin.q Try.results16 (.cons (.agg rfl rfl ud24 rfl inf24 (us := [_, _, _, _, _, _, _, _, _, _, _]) rfl rfl) .nil) [])
theorem apF_c (c : DConf) (h : DHall) (t n : Int) (q : DReq) (hq : okQ h q) (hh : okHl h) :
    Cd Try.prog 10 [fCf c, aHl h, i64 t, i64 n, aRq q] (.agg [i64 (applyH c h t n q).ticket, .t (.lst ((applyH c h t n q).chans.map tCh)), .t (.lst ((applyH c h t n q).waits.map tWt)), .t (.lst ((applyH c h t n q).done.map tR))]) [] := by
  have h0 := apply_c c h t n q hq hh
  have e1 := (applyH_len c h t n q).1
  have e2 := (applyH_len c h t n q).2
  generalize applyH c h t n q = g at *
  rw [← e1, ← e2] at h0
  have h0' := Cd.frz1 h0 0 rfl (by repeat' (first | exact FzL.nil | apply FzL.cons | exact FzR.nlt | exact FzR.all (by first | rfl | (simp <;> fail) | (simp; omega)) | exact FzR.sl (by first | exact Nat.le_refl _ | (simp <;> fail) | (simp; omega)) | apply FzR.aggL | exact FzR.same _)) rfl; have h0'' := Cd.frz1 h0' 1 rfl (by repeat' (first | exact FzL.nil | apply FzL.cons | exact FzR.nlt | exact FzR.all (by first | rfl | (simp <;> fail) | (simp; omega)) | exact FzR.sl (by first | exact Nat.le_refl _ | (simp <;> fail) | (simp; omega)) | apply FzR.aggL | exact FzR.same _)) rfl; exact Cd.drop h0'' rfl
theorem ap12b : applyH c12 h12 0 1 ⟨3, 0, 0, false, [⟨2, 8, 0⟩]⟩ = h12b := by decide +kernel
theorem ap12c : applyH c12 h12b 1 1 ⟨3, 0, 0, false, [⟨1, 8, 5⟩]⟩ = h12c := by decide +kernel
theorem hd12 : handH h12c = [8] := by decide +kernel
theorem okHl_of {h : DHall} (h1 : h.chans.length ≤ 3 ∧ h.waits.length ≤ 5 ∧ h.done.length ≤ 5) (h2 : h.chans.all (fun x => decide (x.buf.length ≤ 100)) = true) (h3 : h.waits.all (fun w => decide (w.cases.length ≤ 3)) = true) : okHl h :=
  ⟨by omega, fun x hx => by have := of_decide_eq_true (List.all_eq_true.1 h2 x hx); omega, ⟨by omega, fun w hw => by have := of_decide_eq_true (List.all_eq_true.1 h3 w hw); omega⟩, by omega⟩
def okQb (h : DHall) (q : DReq) : Bool := decide (-1000 ≤ q.arg ∧ q.arg ≤ 1000) && decide (-1000 ≤ q.value ∧ q.value ≤ 1000) && q.cases.all (fun x => decide (-1000 ≤ x.dir ∧ x.dir ≤ 1000 ∧ -1000 ≤ x.handle ∧ x.handle ≤ 1000 ∧ -1000 ≤ x.value ∧ x.value ≤ 1000)) && decide (q.cases.length ≤ 3) && decide (-1000 ≤ h.ticket) && h.chans.all (fun x => decide (-1000 ≤ x.gen ∧ x.gen ≤ 1000))
theorem okQ_of {h : DHall} {q : DReq} (hb : okQb h q = true) : okQ h q := by
  unfold okQb at hb
  simp only [Bool.and_eq_true, decide_eq_true_eq, List.all_eq_true] at hb
  obtain ⟨⟨⟨⟨⟨h1, h2⟩, h3⟩, h4⟩, h5⟩, h6⟩ := hb
  exact ⟨by unfold sI; omega, by unfold sI; omega, fun x hx => by have := h3 x hx; unfold sCs sI; omega, by omega, by omega, fun x hx => by have := h6 x hx; unfold sI; omega⟩
theorem stF_c (c : DConf) (hs : c.start.length ≤ 1152921504606846976) : Cd Try.prog 13 [aCf c] (.agg [i64 (startH c).ticket, .t (.lst ((startH c).chans.map tCh)), .t (.lst ((startH c).waits.map tWt)), .t (.lst ((startH c).done.map tR))]) [] := by
  have h0 := hstart_c c hs
  have l := startH_ln c
  have e1 := l.c
  have e2 := l.w
  have e3 := l.d
  have hh : Cd Try.prog 13 [aCf c] (.agg [i64 (startH c).ticket, .sl 0 0 (startH c).chans.length, .sl 1 0 (startH c).waits.length, .sl 2 0 (startH c).done.length]) [.row 0 66 5 ((startH c).chans.map tCh), .row 0 43 4 ((startH c).waits.map tWt), .row 0 50 4 ((startH c).done.map tR)] := by rw [e1, e2, e3]; exact h0
  generalize startH c = g at *
  have hh' := Cd.frz1 hh 0 rfl (by repeat' (first | exact FzL.nil | apply FzL.cons | exact FzR.nlt | exact FzR.all (by first | rfl | (simp <;> fail) | (simp; omega)) | exact FzR.sl (by first | exact Nat.le_refl _ | (simp <;> fail) | (simp; omega)) | apply FzR.aggL | exact FzR.same _)) rfl; have hh'' := Cd.frz1 hh' 1 rfl (by repeat' (first | exact FzL.nil | apply FzL.cons | exact FzR.nlt | exact FzR.all (by first | rfl | (simp <;> fail) | (simp; omega)) | exact FzR.sl (by first | exact Nat.le_refl _ | (simp <;> fail) | (simp; omega)) | apply FzR.aggL | exact FzR.same _)) rfl; have hh''' := Cd.frz1 hh'' 2 rfl (by repeat' (first | exact FzL.nil | apply FzL.cons | exact FzR.nlt | exact FzR.all (by first | rfl | (simp <;> fail) | (simp; omega)) | exact FzR.sl (by first | exact Nat.le_refl _ | (simp <;> fail) | (simp; omega)) | apply FzR.aggL | exact FzR.same _)) rfl; exact Cd.drop hh''' rfl
theorem startH12 : startH c12 = h12 := by decide +kernel
set_option maxHeartbeats 16000000 in
theorem awake12_c : Cd Try.prog 15 [] (bo true) [] := by
  have cS := stF_c c12 (by decide)
  rw [startH12] at cS
  have c1 := apF_c c12 h12 0 1 ⟨3, 0, 0, false, [⟨2, 8, 0⟩]⟩ (okQ_of (by decide +kernel)) (okHl_of (by decide) (by decide) (by decide))
  have c2 := apF_c c12 h12b 1 1 ⟨3, 0, 0, false, [⟨1, 8, 5⟩]⟩ (okQ_of (by decide +kernel)) (okHl_of (by decide) (by decide) (by decide))
  rw [ap12b] at c1
  rw [ap12c] at c2
  have c3 := handles_c h12c (by decide)
  rw [hd12] at c3
  have c4 := ints_c [8] [8] (by decide)
  rw [decide_eq_true rfl] at c4
  have d1 : (h12.chans.map tCh).length = 2 := rfl
  have d2 : (h12.waits.map tWt).length = 2 := rfl
  have d3 : (h12.done.map tR).length = 2 := rfl
  have d4 : (h12b.done.map tR).length = 2 := rfl
  have d5 : (h12b.waits.map tWt).length = 2 := rfl
  have d6 : (h12c.done.map tR).length = 2 := rfl
  have d7 : (h12c.waits.map tWt).length = 2 := rfl
  have x1 : h12b.done[0]? = some ⟨1, 0, 14, 0⟩ := rfl
  have x2 : h12b.waits[0]? = some ⟨true, 0, 1, [⟨2, 8, 0⟩]⟩ := rfl
  have x3 : h12c.done[0]? = some ⟨1, 0, 0, 5⟩ := rfl
  have x4 : h12c.done[1]? = some ⟨1, 0, 0, 0⟩ := rfl
  have x5 : h12c.waits[0]? = some ⟨false, 0, 0, []⟩ := rfl
  have t1 : h12.ticket = 0 := rfl
  have t2 : h12b.ticket = 1 := rfl
  have t3 : h12c.ticket = 1 := rfl
  dsimp only [aHl, aRq] at c1 c2 c3
  rw [t1] at cS
  rw [t1, t2] at c1
  rw [t2, t3] at c2
  rw [t3] at c3
  generalize h12.chans = q1 at *
  generalize h12.waits = q2 at *
  generalize h12.done = q3 at *
  generalize h12b.chans = q4 at *
  generalize h12b.waits = q5 at *
  generalize h12b.done = q6 at *
  generalize h12c.chans = q7 at *
  generalize h12c.waits = q8 at *
  generalize h12c.done = q9 at *
  refine Cd.enter' Try.func15 rfl Try.ntmps15 rfl ?_
  repeat' (first | ((with_reducible refine kAL ?_); (first | refine A_as rfl rfl rfl rfl ?_ | (refine kL 522 rfl ?_; refine A_cl rfl rfl Try.func16 rfl (small12_c) ?_) | refine A_alloc rfl rfl 24 rfl inf24 (cs := [.t (.v (.int .i64 0)), .t (.v (.int .i64 0)), .t (.v (.int .i64 0)), .t (.v (.int .i64 0)), .t (.v (.int .i64 0)), .t (.v (.int .i64 0)), .t (.v (.int .i64 0)), .t (.v (.int .i64 0)), .t (.v (.int .i64 0)), .t (.v (.int .i64 0)), AV.nl]) rfl (.push qL qN) ?_ | refine A_store rfl rfl 24 _ _ rfl inf24 rfl rfl rfl rfl (Nat.le_of_ble_eq_true rfl) qN qN ?_ | refine A_load_agg rfl rfl 24 _ rfl ud24 rfl inf24 rfl rfl (us' := [_, _, _, _, _, _, _, _, _, _, _]) rfl rfl ?_ | refine A_load_agg rfl rfl 29 _ rfl ud29 rfl inf29 rfl rfl (us' := [_, _, _, _]) rfl rfl ?_ | (refine kL 1454 rfl ?_; refine A_build rfl rfl 45 _ rfl ud45 inf45 [(0, 1), (1, 1), (2, 1)] (by kernel_rfl) (zs := [.t (.v (.int .i64 0)), .t (.v (.int .i64 0)), .t (.v (.int .i64 0))]) rfl (.cons rfl (.cons rfl (.cons rfl .nil))) (cs := [_, _, _]) rfl ?_) | (refine kL 975 rfl ?_; refine A_lit rfl rfl 30 1 _ rfl ud30 inf45 (.cons rfl .nil) (els := [[_, _, _]]) rfl (by exact (rfl : _ = List.map tCs [⟨_, _, _⟩])) rfl (Nat.ne_of_beq_eq_false rfl) (Nat.le_of_ble_eq_true rfl) (Nat.le_of_ble_eq_true rfl) (.push qL qN) ?_) | (refine kL 1038 rfl ?_; refine A_build rfl rfl 32 _ rfl ud32 inf32 [(0, 1), (1, 1), (2, 1), (3, 1), (4, 1)] (by kernel_rfl) (zs := [.t (.v (.int .i64 0)), .t (.v (.int .i64 0)), .t (.v (.int .i64 0)), .t (.v (.bool false)), AV.nl]) rfl (.cons rfl (.cons rfl .nil)) (cs := [_, _, _, _, _]) rfl ?_) | (refine kL 330 rfl ?_; refine A_cl rfl rfl Try.func10 rfl (c2) ?_) | refine A_alloc rfl rfl 29 rfl inf29 (cs := [.t (.v (.int .i64 0)), AV.nl, AV.nl, AV.nl]) rfl (.push qL qN) ?_ | refine A_store rfl rfl 29 _ _ rfl inf29 rfl rfl rfl rfl (Nat.le_of_ble_eq_true rfl) qN qN ?_ | (refine kL 932 rfl ?_; (first | refine A_field rfl rfl 29 _ 3 rfl ud29 rfl inf27 (by decide) 3 rfl rfl ?_ | refine A_field rfl rfl 29 _ 2 rfl ud29 rfl inf26 (by decide) 2 rfl rfl ?_)) | refine A_load rfl rfl 27 _ rfl ud27 rfl rfl rfl rfl ?_ | (refine kL 12 rfl ?_; (first | refine A_len rfl rfl 27 _ rfl ud27 rfl ?_ | refine A_len rfl rfl 26 _ rfl ud26 rfl ?_)) | (refine kL 105 rfl ?_; (first | refine A_cmp (d := 21) rfl rfl (c := false) .neq 3 3 _ _ rfl rfl rfl (by exact congrArg some (decide_eq_false (by (try (dsimp only; fail_if_success done)); omega))) ?_ | refine A_cmp (d := 26) rfl rfl (c := false) .neq 3 3 _ _ rfl rfl rfl (by exact congrArg some (decide_eq_false (by (try (dsimp only; fail_if_success done)); omega))) ?_ | refine A_cmp (d := 32) rfl rfl (c := false) .neq 3 3 _ _ rfl rfl rfl (by exact congrArg some (decide_eq_false (by (try (dsimp only; fail_if_success done)); omega))) ?_ | refine A_cmp (d := 38) rfl rfl (c := false) .neq 3 3 _ _ rfl rfl rfl (by exact congrArg some (decide_eq_false (by (try (dsimp only; fail_if_success done)); omega))) ?_)) | refine A_mt rfl rfl rfl rfl ?_ | (refine kL 19 rfl ?_; (first | refine A_pkt rfl rfl _ _ _ rfl rfl rfl ?_ | refine A_pkf rfl rfl _ _ _ rfl rfl rfl ?_)) | refine A_load rfl rfl 26 _ rfl ud26 rfl rfl rfl rfl ?_ | (refine kL 870 rfl ?_; (first | refine A_idx rfl rfl 27 _ _ rfl ud27 inf50 (by decide) (by exact .inr rfl) rfl (by omega) _ (rfl : Int.toNat 0 = 0) (by exact map_get (by assumption)) rfl (cs' := [_, _, _, _]) rfl ?_ | refine A_idx rfl rfl 27 _ _ rfl ud27 inf50 (by decide) (by exact .inr rfl) rfl (by omega) _ (rfl : Int.toNat 1 = 1) (by exact map_get (by assumption)) rfl (cs' := [_, _, _, _]) rfl ?_)) | refine A_field rfl rfl 50 _ 2 rfl ud50 rfl inf48 (by decide) 2 rfl rfl ?_ | refine A_load_lp rfl rfl 48 _ rfl ud48 rfl rfl rfl ?_ | refine A_cmp (d := 45) rfl rfl .eql 48 48 _ _ rfl rfl rfl rfl ?_ | (refine kL 838 rfl ?_; refine A_idx rfl rfl 26 _ _ rfl ud26 inf43 (by decide) (by exact .inr rfl) rfl (by omega) _ (rfl : Int.toNat 0 = 0) (by exact map_get (by assumption)) rfl (cs' := [_, _, _, _]) rfl ?_) | refine A_field rfl rfl 43 _ 0 rfl ud43 rfl inf4 (by decide) 0 rfl rfl ?_ | refine A_load_lp rfl rfl 4 _ rfl ud4 rfl rfl rfl ?_ | refine A_load_lp_agg rfl rfl 50 _ rfl ud50 rfl inf50 rfl (us' := [_, _, _, _]) rfl rfl ?_ | (refine kL 1614 rfl ?_; (first | refine A_build rfl rfl 50 _ rfl ud50 inf50 [(0, 1), (1, 1), (2, 1), (3, 1)] (by kernel_rfl) (zs := [.t (.v (.int .i64 0)), .t (.v (.int .i64 0)), .t (.v (.int .i64 0)), .t (.v (.int .i64 0))]) rfl (.cons rfl (.cons rfl .nil)) (cs := [_, _, _, _]) rfl ?_ | refine A_build rfl rfl 50 _ rfl ud50 inf50 [(0, 1), (1, 1), (2, 1), (3, 1)] (by kernel_rfl) (zs := [.t (.v (.int .i64 0)), .t (.v (.int .i64 0)), .t (.v (.int .i64 0)), .t (.v (.int .i64 0))]) rfl (.cons rfl .nil) (cs := [_, _, _, _]) rfl ?_)) | (refine kL 1609 rfl ?_; (refine A_eqs rfl rfl 50 50 _ _ rfl rfl rfl (by kernel_rfl) (fun w => eqs50 9998 _ _ _ _ _ _ _ _ w) (by rfl) ?_)) | refine A_not rfl rfl _ _ rfl rfl ?_ | (refine kL 650 rfl ?_; refine A_cl rfl rfl Try.func20 rfl (c3) ?_) | (refine kL 719 rfl ?_; refine A_lit rfl rfl 22 1 _ rfl ud22 inf3 (.cons rfl .nil) (els := [[_]]) rfl (by exact (rfl : _ = List.map tI [_])) rfl (Nat.ne_of_beq_eq_false rfl) (Nat.le_of_ble_eq_true rfl) (Nat.le_of_ble_eq_true rfl) (.push qL qN) ?_) | (refine kL 682 rfl ?_; refine A_cl rfl rfl Try.func21 rfl (c4) ?_) | refine AL.nil ?_)) | ((with_reducible refine kRG ?_); (first | refine R_load_agg rfl rfl 24 _ rfl ud24 rfl inf24 rfl rfl (us' := [_, _, _, _, _, _, _, _, _, _, _]) rfl rfl ?_ | (refine kR 426 rfl ?_; (refine R_cl rfl rfl Try.func13 rfl (cS) ?_; refine ⟨0, _, _, _, rfl, qU, qU, qZ, ?_⟩)) | (refine kR 1454 rfl ?_; refine R_build rfl rfl 45 _ rfl ud45 inf45 [(0, 1), (1, 1), (2, 1)] (by kernel_rfl) (zs := [.t (.v (.int .i64 0)), .t (.v (.int .i64 0)), .t (.v (.int .i64 0))]) rfl (.cons rfl (.cons rfl .nil)) (cs := [_, _, _]) rfl ?_) | (refine kR 975 rfl ?_; refine R_lit (N := 1) rfl rfl 30 1 _ rfl ud30 inf45 (.cons rfl .nil) (els := [[_, _, _]]) rfl (by exact (rfl : _ = List.map tCs [⟨_, _, _⟩])) rfl (Nat.ne_of_beq_eq_false rfl) (Nat.le_of_ble_eq_true rfl) (Nat.le_of_ble_eq_true rfl) rfl qN ?_) | (refine kR 1038 rfl ?_; refine R_build rfl rfl 32 _ rfl ud32 inf32 [(0, 1), (1, 1), (2, 1), (3, 1), (4, 1)] (by kernel_rfl) (zs := [.t (.v (.int .i64 0)), .t (.v (.int .i64 0)), .t (.v (.int .i64 0)), .t (.v (.bool false)), AV.nl]) rfl (.cons rfl (.cons rfl .nil)) (cs := [_, _, _, _, _]) rfl ?_) | (refine kR 330 rfl ?_; (refine R_cl rfl rfl Try.func10 rfl (c1) ?_; refine ⟨0, _, _, _, rfl, qU, qU, qZ, ?_⟩)) | refine R_alloc (N := 2) rfl rfl 29 rfl inf29 (cs := [.t (.v (.int .i64 0)), AV.nl, AV.nl, AV.nl]) rfl rfl qN ?_ | refine R_store rfl rfl 29 _ _ rfl inf29 rfl rfl rfl rfl (Nat.le_of_ble_eq_true rfl) qN qN ?_ | refine RG.nil ⟨by kernel_rfl, ?_⟩)) | (with_reducible (first | refine wk0 ?_ | refine wk2 ?_ | refine wk9 ?_ | refine wkb ?_ | refine wkd ?_)) | refine kcf rfl ?_ | with_reducible refine AW.at_region _ ?_ | refine AW.at_draw 2 mixed 2 [[], [], [1], [], [3], [3, 4], [0, 1, 2, 3, 4, 5], [], [0, 1, 2, 3, 4, 5, 6, 7]] qR ?_)
  all_goals first | (exfalso; omega) | (exact Fin.q Try.results15 (.cons (.tmp rfl) .nil) [])
end Go.Proofs.Ytphcebioiipdpaa

