/- Joined: XTDfltP, XTLaw12d. -/
import Derived.Test.YtphcebioiipdpaaK12k
import Derived.Test.YtphcebioiipdpaaK12l
/- A call that has to wait, with a default, and cancelled: the plain law. No program in sight. -/
namespace Go.Proofs.Ytphcebioiipdpaa
set_option linter.unusedVariables false
set_option linter.unusedSimpArgs false
set_option linter.unnecessarySimpa false
open Go.RowKit
theorem casesE_v (h : DHall) (l : List DCase) : casesE h l = 0 ∨ casesE h l = 1 ∨ casesE h l = 8 := by
  unfold casesE
  split
  · exact .inr (.inl rfl)
  · split
    · exact .inr (.inr rfl)
    · exact .inl rfl
theorem park_only {c : DConf} {h : DHall} {j : Nat} {n : Int} {q : DReq} (hk : q.kind = 3) (hd : q.dflt = false) {r : Rst} (hj : j < h.done.length) (hr : (applyH c h j n q).done[j]? = some r) (h14 : r.code = 14) :
    casesE h q.cases = 0 ∧ ixF (rdyK h) q.cases < 0 ∧ h.ticket < 4294967295 ∧ putOk h.waits j = true := by
  rw [apply_sel hk] at hr
  dsimp only at hr
  have hlen : (chooseH h j n q).1.done.length = h.done.length := (chooseH_len h j n q).2
  rw [noteL_get (by rw [hlen]; exact hj)] at hr
  cases hr
  dsimp only at h14
  unfold chooseH at h14
  rw [hd] at h14
  by_cases e1 : casesE h q.cases = 0
  · rw [if_neg (by omega)] at h14
    by_cases e2 : 0 ≤ ixF (rdyK h) q.cases
    · rw [if_pos e2] at h14
      have hm := (ixF_mem (d := (default : DCase)) e2).2
      generalize q.cases.getD (ixF (rdyK h) q.cases).toNat default = K at hm h14
      have hc : (gotH h K).r.code = 0 ∨ (gotH h K).r.code = 9 := doG_code hm
      have h15 : (gotH h K).r.code = 14 := h14
      omega
    · rw [if_neg e2, if_neg (by simp)] at h14
      by_cases e3 : 4294967295 ≤ h.ticket
      · rw [if_pos e3] at h14; exact absurd h14 (by dsimp only; decide)
      · rw [if_neg e3] at h14
        cases e4 : putOk h.waits j
        · rw [e4, if_neg (by simp)] at h14; exact absurd h14 (by dsimp only; decide)
        · exact ⟨e1, by omega, by omega, rfl⟩
  · rw [if_pos e1] at h14
    dsimp only at h14
    rcases casesE_v h q.cases with e | e | e <;> omega
theorem park_all {c : DConf} {h : DHall} {j : Nat} {n : Int} {cs : List DCase} {w : DWait} (hw : h.waits[j]? = some w) (e1 : casesE h cs = 0) (e2 : ixF (rdyK h) cs < 0) (e3 : h.ticket < 4294967295) (e4 : putOk h.waits j = true) :
    applyH c h j n ⟨3, 0, 0, false, cs⟩ = ⟨h.ticket + 1, h.chans, h.waits.set j ⟨true, h.ticket, n, cs⟩, noteL h.done j ⟨n, 0, 14, 0⟩⟩ ∧ applyH c h j n ⟨3, 0, 0, true, cs⟩ = ⟨h.ticket, h.chans, h.waits, noteL h.done j ⟨n, 0, 10, 0⟩⟩ := by
  have f1 : chooseH h j n ⟨3, 0, 0, false, cs⟩ = (⟨h.ticket + 1, h.chans, h.waits.set j ⟨true, h.ticket, n, cs⟩, h.done⟩, ⟨0, 0, 14, 0⟩) := by
    unfold chooseH; dsimp only
    rw [if_neg (by omega), if_neg (by omega), if_neg (by simp), if_neg (by omega), if_pos e4, putW_yes e4]
  have f2 : chooseH h j n ⟨3, 0, 0, true, cs⟩ = (h, ⟨0, 0, 10, 0⟩) := by
    unfold chooseH; dsimp only
    rw [if_neg (by omega), if_neg (by omega), if_pos rfl]
  exact ⟨by rw [apply_sel rfl, f1], by rw [apply_sel rfl, f2]⟩
theorem cancel_it {c : DConf} {h : DHall} {j : Nat} {me n : Int} {tk : Int} {cs : List DCase} {d : List Rst} (hj : j < h.waits.length) (hw : h.waits[j]? = some w0) (hme : (j : Int) ≠ me) :
    applyH c ⟨h.ticket + 1, h.chans, h.waits.set j ⟨true, tk, 100, cs⟩, d⟩ me n ⟨7, j, 100, false, []⟩ = ⟨h.ticket + 1, h.chans, h.waits, noteL (noteL d j ⟨100, 0, 11, 0⟩) me ⟨n, 0, 0, 0⟩⟩ := by
  have hg : (h.waits.set j ⟨true, tk, 100, cs⟩)[j]? = some ⟨true, tk, 100, cs⟩ := List.getElem?_set_self hj
  have hc := cutOk_yes hg rfl
  have e : callH c ⟨h.ticket + 1, h.chans, h.waits.set j ⟨true, tk, 100, cs⟩, d⟩ me n ⟨7, j, 100, false, []⟩ = (⟨h.ticket + 1, h.chans, h.waits, noteL d j ⟨100, 0, 11, 0⟩⟩, ⟨0, 0, 0, 0⟩) := by
    unfold callH
    rw [if_neg (by simp), if_neg (by simp), if_neg (by simp), if_neg (by simp), if_neg (by simp), if_pos rfl]
    unfold cancelH mayCut
    dsimp only
    rw [hc, Int.toNat_natCast, getD_of hg, decide_eq_true hme, decide_eq_true rfl, Bool.true_and, Bool.true_and, if_pos rfl, cutW_yes hc, List.set_set]
    have : h.waits.set j w0 = h.waits := by obtain ⟨hq, e⟩ := List.getElem?_eq_some_iff.1 hw; rw [← e]; exact List.set_getElem_self hq
    rw [this]
  unfold applyH; rw [e]
end Go.Proofs.Ytphcebioiipdpaa


/- The laws of layer 12: HallDefault. -/
namespace Go.Proofs.Ytphcebioiipdpaa
set_option linter.unusedVariables false
set_option linter.unusedSimpArgs false
set_option linter.unnecessarySimpa false
open Go.RowKit
set_option maxHeartbeats 32000000
attribute [local irreducible] AL AW RG Fin C Cd Cio thenQ blockQ retQ
set_option maxRecDepth 100000
set_option maxHeartbeats 32000000 in
theorem hallDefault_c (l : List DMove) (cs : List DCase) (t : Int) (hs : ∀ x ∈ l, sMv x) (hq : ∀ x ∈ l, x.req.cases.length ≤ 5864062014805) (hll : l.length ≤ 1152921504606846976) (hsq : ∀ x ∈ cs, sCs x) (hql : cs.length ≤ 5864062014805) : Cd Try.prog 5 [.ln (l.map tMv), .ln (cs.map tCs), i64 t] (bo true) [] := by
  have h1 : (l.map tMv).length = l.length := List.length_map _
  have h2 : (cs.map tCs).length = cs.length := List.length_map _
  have cA := awake12_c
  have cS := small12_c
  by_cases hg : l.length ≤ 60 ∧ 0 ≤ t ∧ t ≤ 1 ∧ cs.length ≤ 3
  · obtain ⟨g1, g2, g3, g5⟩ := hg
    obtain ⟨j, rfl⟩ : ∃ j : Nat, t = j := ⟨t.toNat, by omega⟩
    have cR := run12_c l g1 hs hq
    obtain ⟨bd, ln⟩ := runH_bd c12 l l.length
    rw [c12_n.1, c12_n.2] at ln
    generalize runH c12 l l.length = h at *
    have hwl : (h.waits.map tWt).length = 2 := by rw [List.length_map, ln.w]
    have hwl2 := ln.w
    have hdl2 := ln.d
    have hdh : (h.done.map tR).length = 2 := by rw [List.length_map, ln.d]
    have hok := bd.ok ln (by omega) (by omega) (by omega)
    obtain ⟨w, hw⟩ : ∃ w, h.waits[j]? = some w := ⟨_, List.getElem?_eq_getElem (by omega)⟩
    obtain ⟨v, hv⟩ : ∃ v, h.waits[Int.toNat (1 - (j : Int))]? = some v := ⟨_, List.getElem?_eq_getElem (by omega)⟩
    have hoff := bd.w.off w (List.mem_of_getElem? hw)
    have hcc := bd.tk
    have hQ : ∀ b : Bool, okQ h ⟨3, 0, 0, b, cs⟩ := fun b => ⟨by show sI 0; unfold sI; omega, by show sI 0; unfold sI; omega, hsq, hql, by have := bd.tk.1; omega, fun x hx => by have := bd.gn x hx; unfold sI; omega⟩
    cases hon : w.on
    · have hw0 := hoff hon
      subst hw0
      have cP := apF_c c12 h j 100 ⟨3, 0, 0, false, cs⟩ (hQ false) hok
      have hAb := applyH_bd (c := c12) (t := (j : Int)) (n := 100) (q := ⟨3, 0, 0, false, cs⟩) bd
      have hAl := applyH_ln (c := c12) (t := (j : Int)) (n := 100) (q := ⟨3, 0, 0, false, cs⟩) ln
      have hAd := hAl.d
      obtain ⟨⟨r1, r2, r3, r4⟩, hr⟩ : ∃ r, (applyH c12 h j 100 ⟨3, 0, 0, false, cs⟩).done[j]? = some r := ⟨_, List.getElem?_eq_getElem (by omega)⟩
      by_cases h14 : r3 = 14
      · subst h14
        obtain ⟨e1, e2, e3, e4⟩ := park_only rfl rfl (by omega) hr rfl
        obtain ⟨f1, f2⟩ := @park_all c12 h j 100 cs w0 hw e1 e2 e3 e4
        have cB := apF_c c12 h j 100 ⟨3, 0, 0, true, cs⟩ (hQ true) hok
        have cD := apF_c c12 _ (1 - (j : Int)) 101 ⟨7, j, 100, false, []⟩ (⟨by show sI (j : Int); unfold sI; omega, by show sI 100; unfold sI; omega, fun x hx => (by cases hx), Nat.zero_le _, by have := hAb.tk.1; omega, fun x hx => by have := hAb.gn x hx; unfold sI; omega⟩) (hAb.ok hAl (by omega) (by omega) (by omega))
        have hx := @cancel_it c12 h j (1 - (j : Int)) 101 h.ticket cs (noteL h.done j ⟨100, 0, 14, 0⟩) (by omega) hw (by omega)
        rw [f1] at cP cD
        rw [f2] at cB
        rw [hx] at cD
        dsimp only at cP cB cD
        have kH := hall_same h hok.hc
        have p1 : (noteL h.done j ⟨100, 0, 14, 0⟩)[j]? = some ⟨100, 0, 14, 0⟩ := noteL_get (by omega)
        have p2 : (noteL h.done j ⟨100, 0, 10, 0⟩)[j]? = some ⟨100, 0, 10, 0⟩ := noteL_get (by omega)
        have l1 : ((noteL h.done j ⟨100, 0, 14, 0⟩).map tR).length = 2 := by rw [List.length_map, noteL_len, hdl2]
        have l2 : ((noteL h.done j ⟨100, 0, 10, 0⟩).map tR).length = 2 := by rw [List.length_map, noteL_len, hdl2]
        have l3 : ((noteL (noteL (noteL h.done j ⟨100, 0, 14, 0⟩) j ⟨100, 0, 11, 0⟩) (1 - (j : Int)) ⟨101, 0, 0, 0⟩).map tR).length = 2 := by rw [List.length_map, noteL_len, noteL_len, noteL_len, hdl2]
        have p3 : (noteL (noteL (noteL h.done j ⟨100, 0, 14, 0⟩) j ⟨100, 0, 11, 0⟩) (1 - (j : Int)) ⟨101, 0, 0, 0⟩)[j]? = some ⟨100, 0, 11, 0⟩ := by
          rw [show (1 - (j : Int)) = ((1 - j : Nat) : Int) by omega, noteL_in (by rw [noteL_len, noteL_len]; omega), List.getElem?_set_ne (by omega)]
          exact noteL_get (by rw [noteL_len]; omega)
        have p4 : (noteL (noteL (noteL h.done j ⟨100, 0, 14, 0⟩) j ⟨100, 0, 11, 0⟩) (1 - (j : Int)) ⟨101, 0, 0, 0⟩)[Int.toNat (1 - (j : Int))]? = some ⟨101, 0, 0, 0⟩ := by
          rw [show (1 - (j : Int)) = ((1 - j : Nat) : Int) by omega, Int.toNat_natCast]
          exact noteL_get (by rw [noteL_len, noteL_len]; omega)
        generalize noteL (noteL (noteL h.done j ⟨100, 0, 14, 0⟩) j ⟨100, 0, 11, 0⟩) (1 - (j : Int)) ⟨101, 0, 0, 0⟩ = D3 at *
        generalize noteL h.done j ⟨100, 0, 14, 0⟩ = D1 at *
        generalize noteL h.done j ⟨100, 0, 10, 0⟩ = D2 at *
        generalize hW1 : h.waits.set j ⟨true, h.ticket, 100, cs⟩ = W1 at *
        clear f1 f2 hx hr hAb hAl hAd hQ hW1
        generalize c12 = c at *
        obtain ⟨von, v2, v3, v4⟩ := v
        unfold w0 at hw
        dsimp only [fCf, aHl, aRq] at *
        cases von
        all_goals
          refine Cd.enter' Try.func5 rfl Try.ntmps5 rfl ?_
          repeat' (first | ((with_reducible refine kAL ?_); (first | refine A_as rfl rfl rfl rfl ?_ | (refine kL 522 rfl ?_; refine A_cl rfl rfl Try.func16 rfl (cS) ?_) | refine A_alloc rfl rfl 24 rfl inf24 (cs := [.t (.v (.int .i64 0)), .t (.v (.int .i64 0)), .t (.v (.int .i64 0)), .t (.v (.int .i64 0)), .t (.v (.int .i64 0)), .t (.v (.int .i64 0)), .t (.v (.int .i64 0)), .t (.v (.int .i64 0)), .t (.v (.int .i64 0)), .t (.v (.int .i64 0)), AV.nl]) rfl (.push qL qN) ?_ | refine A_store rfl rfl 24 _ _ rfl inf24 rfl rfl rfl rfl (Nat.le_of_ble_eq_true rfl) qN qN ?_ | (refine kL 0 rfl ?_; (first | refine A_mt rfl rfl rfl rfl ?_ | refine A_move rfl rfl _ (.inl rfl) (y := .ln _) rfl ?_)) | (refine kL 12 rfl ?_; (first | refine A_len rfl rfl 39 _ rfl ud39 rfl ?_ | refine A_len rfl rfl 30 _ rfl ud30 rfl ?_ | refine A_len rfl rfl 26 _ rfl ud26 rfl ?_ | refine A_len rfl rfl 27 _ rfl ud27 rfl ?_)) | (refine kL 105 rfl ?_; (first | refine A_cmp (d := 15) rfl rfl (c := false) .gtr 3 3 _ _ rfl rfl rfl (by exact congrArg some (decide_eq_false (by (try (dsimp only; fail_if_success done)); omega))) ?_ | refine A_cmp (d := 18) rfl rfl (c := false) .lss 3 3 _ _ rfl rfl rfl (by exact congrArg some (decide_eq_false (by (try (dsimp only; fail_if_success done)); omega))) ?_ | refine A_cmp (d := 22) rfl rfl (c := false) .gtr 3 3 _ _ rfl rfl rfl (by exact congrArg some (decide_eq_false (by (try (dsimp only; fail_if_success done)); omega))) ?_ | refine A_cmp (d := 27) rfl rfl (c := false) .gtr 3 3 _ _ rfl rfl rfl (by exact congrArg some (decide_eq_false (by (try (dsimp only; fail_if_success done)); omega))) ?_ | refine A_cmp (d := 36) rfl rfl (c := false) .neq 3 3 _ _ rfl rfl rfl (by exact congrArg some (decide_eq_false (by (try (dsimp only; fail_if_success done)); omega))) ?_ | refine A_cmp (d := 41) rfl rfl (c := false) .neq 3 3 _ _ rfl rfl rfl (by exact congrArg some (decide_eq_false (by (try (dsimp only; fail_if_success done)); omega))) ?_ | refine A_cmp (d := 73) rfl rfl (c := false) .neq 3 3 _ _ rfl rfl rfl (by exact congrArg some (decide_eq_false (by (try (dsimp only; fail_if_success done)); omega))) ?_ | refine A_sub rfl rfl 3 3 _ _ rfl rfl rfl (by first | exact wi | rfl) ?_ | refine A_cmp (d := 106) rfl rfl (c := false) .neq 3 3 _ _ rfl rfl rfl (by exact congrArg some (decide_eq_false (by (try (dsimp only; fail_if_success done)); omega))) ?_ | refine A_cmp (d := 111) rfl rfl (c := false) .neq 3 3 _ _ rfl rfl rfl (by exact congrArg some (decide_eq_false (by (try (dsimp only; fail_if_success done)); omega))) ?_ | refine A_add rfl rfl 3 3 _ _ rfl rfl rfl (by first | exact wi | rfl) ?_ | refine A_cmp (d := 153) rfl rfl (c := false) .neq 3 3 _ _ rfl rfl rfl (by exact congrArg some (decide_eq_false (by (try (dsimp only; fail_if_success done)); omega))) ?_)) | (refine kL 19 rfl ?_; (first | refine A_pkt rfl rfl _ _ _ rfl rfl rfl ?_ | refine A_pkf rfl rfl _ _ _ rfl rfl rfl ?_)) | (refine kL 490 rfl ?_; refine A_cl rfl rfl Try.func15 rfl (cA) ?_) | refine A_load_agg rfl rfl 24 _ rfl ud24 rfl inf24 rfl rfl (us' := [_, _, _, _, _, _, _, _, _, _, _]) rfl rfl ?_ | (refine kL 554 rfl ?_; refine A_cl rfl rfl Try.func17 rfl (cR) ?_) | refine A_alloc rfl rfl 29 rfl inf29 (cs := [.t (.v (.int .i64 0)), AV.nl, AV.nl, AV.nl]) rfl (.push qL qN) ?_ | refine A_store rfl rfl 29 _ _ rfl inf29 rfl rfl rfl rfl (Nat.le_of_ble_eq_true rfl) qN qN ?_ | (refine kL 932 rfl ?_; (first | refine A_field rfl rfl 29 _ 2 rfl ud29 rfl inf26 (by decide) 2 rfl rfl ?_ | refine A_field rfl rfl 29 _ 3 rfl ud29 rfl inf27 (by decide) 3 rfl rfl ?_ | refine A_field rfl rfl 29 _ 0 rfl ud29 rfl inf3 (by decide) 0 rfl rfl ?_)) | refine A_load rfl rfl 26 _ rfl ud26 rfl rfl rfl rfl ?_ | refine A_load rfl rfl 27 _ rfl ud27 rfl rfl rfl rfl ?_ | (refine kL 838 rfl ?_; refine A_idx rfl rfl 26 _ _ rfl ud26 inf43 (by decide) (by exact .inr rfl) rfl (by omega) _ (by first | with_reducible exact Int.toNat_natCast _ | exact rfl) (by exact map_get (by assumption)) rfl (cs' := [_, _, _, _]) rfl ?_) | refine A_field rfl rfl 43 _ 0 rfl ud43 rfl inf4 (by decide) 0 rfl rfl ?_ | refine A_load_lp rfl rfl 4 _ rfl ud4 rfl rfl rfl ?_ | refine A_load_agg rfl rfl 29 _ rfl ud29 rfl inf29 rfl rfl (us' := [_, _, _, _]) rfl rfl ?_ | (refine kL 1038 rfl ?_; (first | refine A_build rfl rfl 32 _ rfl ud32 inf32 [(0, 1), (1, 1), (2, 1), (3, 1), (4, 1)] (by kernel_rfl) (zs := [.t (.v (.int .i64 0)), .t (.v (.int .i64 0)), .t (.v (.int .i64 0)), .t (.v (.bool false)), AV.nl]) rfl (.cons rfl (.cons rfl .nil)) (cs := [_, _, _, _, _]) rfl ?_ | refine A_build rfl rfl 32 _ rfl ud32 inf32 [(0, 1), (1, 1), (2, 1), (3, 1), (4, 1)] (by kernel_rfl) (zs := [.t (.v (.int .i64 0)), .t (.v (.int .i64 0)), .t (.v (.int .i64 0)), .t (.v (.bool false)), AV.nl]) rfl (.cons rfl (.cons rfl (.cons rfl .nil))) (cs := [_, _, _, _, _]) rfl ?_)) | (refine kL 330 rfl ?_; (first | refine A_cl rfl rfl Try.func10 rfl (cP) ?_ | refine A_cl rfl rfl Try.func10 rfl (cB) ?_ | refine A_cl rfl rfl Try.func10 rfl (cD) ?_)) | (refine kL 870 rfl ?_; refine A_idx rfl rfl 27 _ _ rfl ud27 inf50 (by decide) (by exact .inr rfl) rfl (by omega) _ (by first | with_reducible exact Int.toNat_natCast _ | exact rfl) (by exact map_get (by assumption)) rfl (cs' := [_, _, _, _]) rfl ?_) | refine A_field rfl rfl 50 _ 2 rfl ud50 rfl inf48 (by decide) 2 rfl rfl ?_ | refine A_load_lp rfl rfl 48 _ rfl ud48 rfl rfl rfl ?_ | (refine kL 1545 rfl ?_; (first | refine A_cmp (d := 81) rfl rfl (c := false) .neq 48 48 _ _ rfl rfl rfl (by exact congrArg some (decide_eq_false (by (try (dsimp only; fail_if_success done)); omega))) ?_ | refine A_cmp (d := 120) rfl rfl (c := false) .neq 48 48 _ _ rfl rfl rfl (by exact congrArg some (decide_eq_false (by (try (dsimp only; fail_if_success done)); omega))) ?_)) | refine A_load_lp_agg rfl rfl 50 _ rfl ud50 rfl inf50 rfl (us' := [_, _, _, _]) rfl rfl ?_ | (refine kL 1614 rfl ?_; (first | refine A_build rfl rfl 50 _ rfl ud50 inf50 [(0, 1), (1, 1), (2, 1), (3, 1)] (by kernel_rfl) (zs := [.t (.v (.int .i64 0)), .t (.v (.int .i64 0)), .t (.v (.int .i64 0)), .t (.v (.int .i64 0))]) rfl (.cons rfl (.cons rfl .nil)) (cs := [_, _, _, _]) rfl ?_ | refine A_build rfl rfl 50 _ rfl ud50 inf50 [(0, 1), (1, 1), (2, 1), (3, 1)] (by kernel_rfl) (zs := [.t (.v (.int .i64 0)), .t (.v (.int .i64 0)), .t (.v (.int .i64 0)), .t (.v (.int .i64 0))]) rfl (.cons rfl .nil) (cs := [_, _, _, _]) rfl ?_)) | (refine kL 1609 rfl ?_; (refine A_nes rfl rfl 50 50 _ _ rfl rfl rfl (by kernel_rfl) (fun w => eqs50 9998 _ _ _ _ _ _ _ _ w) (by rfl) ?_)) | refine A_load rfl rfl 3 _ rfl ud3 rfl rfl rfl rfl ?_ | (refine kL 394 rfl ?_; refine A_cl rfl rfl Try.func12 rfl (kH) ?_) | refine AL.nil ?_)) | ((with_reducible refine kRG ?_); (first | (refine kR 932 rfl ?_; (first | refine R_field rfl rfl 29 _ 3 rfl ud29 rfl inf27 (by decide) 3 rfl rfl ?_ | refine R_field rfl rfl 29 _ 0 rfl ud29 rfl inf3 (by decide) 0 rfl rfl ?_)) | refine R_load rfl rfl 27 _ rfl ud27 rfl rfl rfl rfl ?_ | refine R_load rfl rfl 3 _ rfl ud3 rfl rfl rfl rfl ?_ | refine R_store rfl rfl 27 _ _ rfl inf27 rfl rfl rfl rfl (Nat.le_of_ble_eq_true rfl) qN qN ?_ | refine R_store rfl rfl 3 _ _ rfl inf3 rfl rfl rfl rfl (Nat.le_of_ble_eq_true rfl) qN qN ?_ | refine RG.nil ⟨by kernel_rfl, ?_⟩)) | (with_reducible (first | refine wk0 ?_ | refine wk2 ?_ | refine wk3 ?_ | refine wk9 ?_ | refine wkb ?_ | refine wkd ?_)) | refine kct rfl ?_ | refine kcf rfl ?_ | with_reducible refine AW.at_region _ ?_ | refine AW.at_draw 18 mixed 0 [[], [0], [], [2], [], [4], [0, 1], [0, 1, 6], [0, 1, 2, 3, 6, 7], [0, 1, 2, 3, 6, 7, 8], [0, 1, 2, 3, 4, 5, 6, 7, 8, 9], [0, 1, 2, 3, 4, 5, 6, 7, 8, 9, 10]] qR ?_)
          all_goals first | (exfalso; omega) | (exact Fin.q Try.results5 (.cons (.tmp rfl) .nil) [])
      · have hAdl : ((applyH c12 h j 100 ⟨3, 0, 0, false, cs⟩).done.map tR).length = 2 := by rw [List.length_map, hAd]
        generalize applyH c12 h j 100 ⟨3, 0, 0, false, cs⟩ = a at *
        generalize c12 = c at *
        unfold w0 at hw
        dsimp only [fCf, aHl, aRq] at *
        refine Cd.enter' Try.func5 rfl Try.ntmps5 rfl ?_
        repeat' (first | ((with_reducible refine kAL ?_); (first | refine A_as rfl rfl rfl rfl ?_ | (refine kL 522 rfl ?_; refine A_cl rfl rfl Try.func16 rfl (cS) ?_) | refine A_alloc rfl rfl 24 rfl inf24 (cs := [.t (.v (.int .i64 0)), .t (.v (.int .i64 0)), .t (.v (.int .i64 0)), .t (.v (.int .i64 0)), .t (.v (.int .i64 0)), .t (.v (.int .i64 0)), .t (.v (.int .i64 0)), .t (.v (.int .i64 0)), .t (.v (.int .i64 0)), .t (.v (.int .i64 0)), AV.nl]) rfl (.push qL qN) ?_ | refine A_store rfl rfl 24 _ _ rfl inf24 rfl rfl rfl rfl (Nat.le_of_ble_eq_true rfl) qN qN ?_ | (refine kL 0 rfl ?_; (first | refine A_mt rfl rfl rfl rfl ?_ | refine A_move rfl rfl _ (.inl rfl) (y := .ln _) rfl ?_)) | (refine kL 12 rfl ?_; (first | refine A_len rfl rfl 39 _ rfl ud39 rfl ?_ | refine A_len rfl rfl 30 _ rfl ud30 rfl ?_ | refine A_len rfl rfl 26 _ rfl ud26 rfl ?_ | refine A_len rfl rfl 27 _ rfl ud27 rfl ?_)) | (refine kL 105 rfl ?_; (first | refine A_cmp (d := 15) rfl rfl (c := false) .gtr 3 3 _ _ rfl rfl rfl (by exact congrArg some (decide_eq_false (by (try (dsimp only; fail_if_success done)); omega))) ?_ | refine A_cmp (d := 18) rfl rfl (c := false) .lss 3 3 _ _ rfl rfl rfl (by exact congrArg some (decide_eq_false (by (try (dsimp only; fail_if_success done)); omega))) ?_ | refine A_cmp (d := 22) rfl rfl (c := false) .gtr 3 3 _ _ rfl rfl rfl (by exact congrArg some (decide_eq_false (by (try (dsimp only; fail_if_success done)); omega))) ?_ | refine A_cmp (d := 27) rfl rfl (c := false) .gtr 3 3 _ _ rfl rfl rfl (by exact congrArg some (decide_eq_false (by (try (dsimp only; fail_if_success done)); omega))) ?_ | refine A_cmp (d := 36) rfl rfl (c := false) .neq 3 3 _ _ rfl rfl rfl (by exact congrArg some (decide_eq_false (by (try (dsimp only; fail_if_success done)); omega))) ?_ | refine A_cmp (d := 41) rfl rfl (c := false) .neq 3 3 _ _ rfl rfl rfl (by exact congrArg some (decide_eq_false (by (try (dsimp only; fail_if_success done)); omega))) ?_ | refine A_cmp (d := 73) rfl rfl (c := false) .neq 3 3 _ _ rfl rfl rfl (by exact congrArg some (decide_eq_false (by (try (dsimp only; fail_if_success done)); omega))) ?_ | refine A_cmp (d := 86) rfl rfl (c := true) .eql 3 3 _ _ rfl rfl rfl (by exact congrArg some (decide_eq_true (by (try (dsimp only; fail_if_success done)); omega))) ?_)) | (refine kL 19 rfl ?_; (first | refine A_pkt rfl rfl _ _ _ rfl rfl rfl ?_ | refine A_pkf rfl rfl _ _ _ rfl rfl rfl ?_)) | (refine kL 490 rfl ?_; refine A_cl rfl rfl Try.func15 rfl (cA) ?_) | refine A_load_agg rfl rfl 24 _ rfl ud24 rfl inf24 rfl rfl (us' := [_, _, _, _, _, _, _, _, _, _, _]) rfl rfl ?_ | (refine kL 554 rfl ?_; refine A_cl rfl rfl Try.func17 rfl (cR) ?_) | refine A_alloc rfl rfl 29 rfl inf29 (cs := [.t (.v (.int .i64 0)), AV.nl, AV.nl, AV.nl]) rfl (.push qL qN) ?_ | refine A_store rfl rfl 29 _ _ rfl inf29 rfl rfl rfl rfl (Nat.le_of_ble_eq_true rfl) qN qN ?_ | (refine kL 932 rfl ?_; (first | refine A_field rfl rfl 29 _ 2 rfl ud29 rfl inf26 (by decide) 2 rfl rfl ?_ | refine A_field rfl rfl 29 _ 3 rfl ud29 rfl inf27 (by decide) 3 rfl rfl ?_)) | refine A_load rfl rfl 26 _ rfl ud26 rfl rfl rfl rfl ?_ | refine A_load rfl rfl 27 _ rfl ud27 rfl rfl rfl rfl ?_ | (refine kL 838 rfl ?_; refine A_idx rfl rfl 26 _ _ rfl ud26 inf43 (by decide) (by exact .inr rfl) rfl (by omega) _ (by with_reducible exact Int.toNat_natCast _) (by exact map_get (by assumption)) rfl (cs' := [_, _, _, _]) rfl ?_) | refine A_field rfl rfl 43 _ 0 rfl ud43 rfl inf4 (by decide) 0 rfl rfl ?_ | refine A_load_lp rfl rfl 4 _ rfl ud4 rfl rfl rfl ?_ | refine A_load_agg rfl rfl 29 _ rfl ud29 rfl inf29 rfl rfl (us' := [_, _, _, _]) rfl rfl ?_ | (refine kL 1038 rfl ?_; refine A_build rfl rfl 32 _ rfl ud32 inf32 [(0, 1), (1, 1), (2, 1), (3, 1), (4, 1)] (by kernel_rfl) (zs := [.t (.v (.int .i64 0)), .t (.v (.int .i64 0)), .t (.v (.int .i64 0)), .t (.v (.bool false)), AV.nl]) rfl (.cons rfl (.cons rfl .nil)) (cs := [_, _, _, _, _]) rfl ?_) | (refine kL 330 rfl ?_; refine A_cl rfl rfl Try.func10 rfl (cP) ?_) | (refine kL 870 rfl ?_; refine A_idx rfl rfl 27 _ _ rfl ud27 inf50 (by decide) (by exact .inr rfl) rfl (by omega) _ (by with_reducible exact Int.toNat_natCast _) (by exact map_get (by assumption)) rfl (cs' := [_, _, _, _]) rfl ?_) | refine A_field rfl rfl 50 _ 2 rfl ud50 rfl inf48 (by decide) 2 rfl rfl ?_ | refine A_load_lp rfl rfl 48 _ rfl ud48 rfl rfl rfl ?_ | refine A_cmp (d := 81) rfl rfl (c := true) .neq 48 48 _ _ rfl rfl rfl (by exact congrArg some (decide_eq_true (by (try (dsimp only; fail_if_success done)); omega))) ?_ | refine AL.nil ?_)) | (with_reducible (first | refine wk0 ?_ | refine wk2 ?_ | refine wk3 ?_ | refine wk9 ?_ | refine wkb ?_ | refine wkd ?_)) | refine kct rfl ?_ | refine kcf rfl ?_ | with_reducible refine AW.at_region _ ?_)
        all_goals first | (exfalso; omega) | (exact Fin.q Try.results5 (.cons (.tmp rfl) .nil) [])
    · obtain ⟨won, w2, w3, w4⟩ := w
      dsimp only at hon
      subst hon
      generalize c12 = c at *
      dsimp only [fCf, aHl, aRq] at *
      refine Cd.enter' Try.func5 rfl Try.ntmps5 rfl ?_
      repeat' (first | ((with_reducible refine kAL ?_); (first | refine A_as rfl rfl rfl rfl ?_ | (refine kL 522 rfl ?_; refine A_cl rfl rfl Try.func16 rfl (cS) ?_) | refine A_alloc rfl rfl 24 rfl inf24 (cs := [.t (.v (.int .i64 0)), .t (.v (.int .i64 0)), .t (.v (.int .i64 0)), .t (.v (.int .i64 0)), .t (.v (.int .i64 0)), .t (.v (.int .i64 0)), .t (.v (.int .i64 0)), .t (.v (.int .i64 0)), .t (.v (.int .i64 0)), .t (.v (.int .i64 0)), AV.nl]) rfl (.push qL qN) ?_ | refine A_store rfl rfl 24 _ _ rfl inf24 rfl rfl rfl rfl (Nat.le_of_ble_eq_true rfl) qN qN ?_ | (refine kL 0 rfl ?_; (first | refine A_mt rfl rfl rfl rfl ?_ | refine A_move rfl rfl _ (.inl rfl) (y := .ln _) rfl ?_)) | (refine kL 12 rfl ?_; (first | refine A_len rfl rfl 39 _ rfl ud39 rfl ?_ | refine A_len rfl rfl 30 _ rfl ud30 rfl ?_ | refine A_len rfl rfl 26 _ rfl ud26 rfl ?_ | refine A_len rfl rfl 27 _ rfl ud27 rfl ?_)) | (refine kL 105 rfl ?_; (first | refine A_cmp (d := 15) rfl rfl (c := false) .gtr 3 3 _ _ rfl rfl rfl (by exact congrArg some (decide_eq_false (by (try (dsimp only; fail_if_success done)); omega))) ?_ | refine A_cmp (d := 18) rfl rfl (c := false) .lss 3 3 _ _ rfl rfl rfl (by exact congrArg some (decide_eq_false (by (try (dsimp only; fail_if_success done)); omega))) ?_ | refine A_cmp (d := 22) rfl rfl (c := false) .gtr 3 3 _ _ rfl rfl rfl (by exact congrArg some (decide_eq_false (by (try (dsimp only; fail_if_success done)); omega))) ?_ | refine A_cmp (d := 27) rfl rfl (c := false) .gtr 3 3 _ _ rfl rfl rfl (by exact congrArg some (decide_eq_false (by (try (dsimp only; fail_if_success done)); omega))) ?_ | refine A_cmp (d := 36) rfl rfl (c := false) .neq 3 3 _ _ rfl rfl rfl (by exact congrArg some (decide_eq_false (by (try (dsimp only; fail_if_success done)); omega))) ?_ | refine A_cmp (d := 41) rfl rfl (c := false) .neq 3 3 _ _ rfl rfl rfl (by exact congrArg some (decide_eq_false (by (try (dsimp only; fail_if_success done)); omega))) ?_ | refine A_cmp (d := 54) rfl rfl (c := true) .eql 3 3 _ _ rfl rfl rfl (by exact congrArg some (decide_eq_true (by (try (dsimp only; fail_if_success done)); omega))) ?_ | refine A_cmp (d := 59) rfl rfl (c := true) .eql 3 3 _ _ rfl rfl rfl (by exact congrArg some (decide_eq_true (by (try (dsimp only; fail_if_success done)); omega))) ?_)) | (refine kL 19 rfl ?_; (first | refine A_pkt rfl rfl _ _ _ rfl rfl rfl ?_ | refine A_pkf rfl rfl _ _ _ rfl rfl rfl ?_)) | (refine kL 490 rfl ?_; refine A_cl rfl rfl Try.func15 rfl (cA) ?_) | refine A_load_agg rfl rfl 24 _ rfl ud24 rfl inf24 rfl rfl (us' := [_, _, _, _, _, _, _, _, _, _, _]) rfl rfl ?_ | (refine kL 554 rfl ?_; refine A_cl rfl rfl Try.func17 rfl (cR) ?_) | refine A_alloc rfl rfl 29 rfl inf29 (cs := [.t (.v (.int .i64 0)), AV.nl, AV.nl, AV.nl]) rfl (.push qL qN) ?_ | refine A_store rfl rfl 29 _ _ rfl inf29 rfl rfl rfl rfl (Nat.le_of_ble_eq_true rfl) qN qN ?_ | (refine kL 932 rfl ?_; (first | refine A_field rfl rfl 29 _ 2 rfl ud29 rfl inf26 (by decide) 2 rfl rfl ?_ | refine A_field rfl rfl 29 _ 3 rfl ud29 rfl inf27 (by decide) 3 rfl rfl ?_)) | refine A_load rfl rfl 26 _ rfl ud26 rfl rfl rfl rfl ?_ | refine A_load rfl rfl 27 _ rfl ud27 rfl rfl rfl rfl ?_ | (refine kL 838 rfl ?_; refine A_idx rfl rfl 26 _ _ rfl ud26 inf43 (by decide) (by exact .inr rfl) rfl (by omega) _ (by with_reducible exact Int.toNat_natCast _) (by exact map_get (by assumption)) rfl (cs' := [_, _, _, _]) rfl ?_) | refine A_field rfl rfl 43 _ 0 rfl ud43 rfl inf4 (by decide) 0 rfl rfl ?_ | refine A_load_lp rfl rfl 4 _ rfl ud4 rfl rfl rfl ?_ | refine AL.nil ?_)) | (with_reducible (first | refine wk0 ?_ | refine wk2 ?_ | refine wk3 ?_ | refine wk9 ?_ | refine wkb ?_ | refine wkd ?_)) | refine kct rfl ?_ | refine kcf rfl ?_ | with_reducible refine AW.at_region _ ?_)
      all_goals first | (exfalso; omega) | (exact Fin.q Try.results5 (.cons (.tmp rfl) .nil) [])
  · generalize c12 = c at *
    dsimp only [fCf] at *
    by_cases g1 : l.length ≤ 60
    · by_cases g2 : 0 ≤ t
      · by_cases g3 : t ≤ 1
        all_goals
          refine Cd.enter' Try.func5 rfl Try.ntmps5 rfl ?_
          repeat' (first | ((with_reducible refine kAL ?_); (first | refine A_as rfl rfl rfl rfl ?_ | (refine kL 522 rfl ?_; refine A_cl rfl rfl Try.func16 rfl (cS) ?_) | refine A_alloc rfl rfl 24 rfl inf24 (cs := [.t (.v (.int .i64 0)), .t (.v (.int .i64 0)), .t (.v (.int .i64 0)), .t (.v (.int .i64 0)), .t (.v (.int .i64 0)), .t (.v (.int .i64 0)), .t (.v (.int .i64 0)), .t (.v (.int .i64 0)), .t (.v (.int .i64 0)), .t (.v (.int .i64 0)), AV.nl]) rfl (.push qL qN) ?_ | refine A_store rfl rfl 24 _ _ rfl inf24 rfl rfl rfl rfl (Nat.le_of_ble_eq_true rfl) qN qN ?_ | (refine kL 0 rfl ?_; (first | refine A_mt rfl rfl rfl rfl ?_ | refine A_move rfl rfl _ (.inl rfl) (y := .ln _) rfl ?_)) | (refine kL 12 rfl ?_; (first | refine A_len rfl rfl 39 _ rfl ud39 rfl ?_ | refine A_len rfl rfl 30 _ rfl ud30 rfl ?_)) | (refine kL 105 rfl ?_; (first | refine A_cmp (d := 15) rfl rfl (c := false) .gtr 3 3 _ _ rfl rfl rfl (by exact congrArg some (decide_eq_false (by (try (dsimp only; fail_if_success done)); omega))) ?_ | refine A_cmp (d := 18) rfl rfl (c := false) .lss 3 3 _ _ rfl rfl rfl (by exact congrArg some (decide_eq_false (by (try (dsimp only; fail_if_success done)); omega))) ?_ | refine A_cmp (d := 22) rfl rfl (c := true) .gtr 3 3 _ _ rfl rfl rfl (by exact congrArg some (decide_eq_true (by (try (dsimp only; fail_if_success done)); omega))) ?_ | refine A_cmp (d := 22) rfl rfl (c := false) .gtr 3 3 _ _ rfl rfl rfl (by exact congrArg some (decide_eq_false (by (try (dsimp only; fail_if_success done)); omega))) ?_ | refine A_cmp (d := 27) rfl rfl (c := true) .gtr 3 3 _ _ rfl rfl rfl (by exact congrArg some (decide_eq_true (by (try (dsimp only; fail_if_success done)); omega))) ?_)) | (refine kL 19 rfl ?_; (first | refine A_pkt rfl rfl _ _ _ rfl rfl rfl ?_ | refine A_pkf rfl rfl _ _ _ rfl rfl rfl ?_)) | (refine kL 490 rfl ?_; refine A_cl rfl rfl Try.func15 rfl (cA) ?_) | refine AL.nil ?_ | refine AL.skip rfl rfl ?_)) | (with_reducible (first | refine wk0 ?_ | refine wk2 ?_ | refine wk3 ?_ | refine wk9 ?_ | refine wkb ?_)) | refine kct rfl ?_ | with_reducible refine AW.at_region _ ?_)
          all_goals first | (exfalso; omega) | (exact Fin.q Try.results5 (.cons (.tmp rfl) .nil) [])
      · refine Cd.enter' Try.func5 rfl Try.ntmps5 rfl ?_
        repeat' (first | ((with_reducible refine kAL ?_); (first | refine A_as rfl rfl rfl rfl ?_ | (refine kL 522 rfl ?_; refine A_cl rfl rfl Try.func16 rfl (cS) ?_) | refine A_alloc rfl rfl 24 rfl inf24 (cs := [.t (.v (.int .i64 0)), .t (.v (.int .i64 0)), .t (.v (.int .i64 0)), .t (.v (.int .i64 0)), .t (.v (.int .i64 0)), .t (.v (.int .i64 0)), .t (.v (.int .i64 0)), .t (.v (.int .i64 0)), .t (.v (.int .i64 0)), .t (.v (.int .i64 0)), AV.nl]) rfl (.push qL qN) ?_ | refine A_store rfl rfl 24 _ _ rfl inf24 rfl rfl rfl rfl (Nat.le_of_ble_eq_true rfl) qN qN ?_ | (refine kL 0 rfl ?_; (first | refine A_mt rfl rfl rfl rfl ?_ | refine A_move rfl rfl _ (.inl rfl) (y := .ln _) rfl ?_)) | refine A_len rfl rfl 39 _ rfl ud39 rfl ?_ | (refine kL 105 rfl ?_; (first | refine A_cmp (d := 15) rfl rfl (c := false) .gtr 3 3 _ _ rfl rfl rfl (by exact congrArg some (decide_eq_false (by (try (dsimp only; fail_if_success done)); omega))) ?_ | refine A_cmp (d := 18) rfl rfl (c := true) .lss 3 3 _ _ rfl rfl rfl (by exact congrArg some (decide_eq_true (by (try (dsimp only; fail_if_success done)); omega))) ?_)) | (refine kL 19 rfl ?_; (first | refine A_pkt rfl rfl _ _ _ rfl rfl rfl ?_ | refine A_pkf rfl rfl _ _ _ rfl rfl rfl ?_)) | (refine kL 490 rfl ?_; refine A_cl rfl rfl Try.func15 rfl (cA) ?_) | refine AL.nil ?_ | refine AL.skip rfl rfl ?_)) | (with_reducible (first | refine wk0 ?_ | refine wk2 ?_ | refine wk3 ?_ | refine wk9 ?_ | refine wkb ?_)) | refine kct rfl ?_ | with_reducible refine AW.at_region _ ?_)
        all_goals first | (exfalso; omega) | (exact Fin.q Try.results5 (.cons (.tmp rfl) .nil) [])
    · refine Cd.enter' Try.func5 rfl Try.ntmps5 rfl ?_
      repeat' (first | ((with_reducible refine kAL ?_); (first | refine A_as rfl rfl rfl rfl ?_ | (refine kL 522 rfl ?_; refine A_cl rfl rfl Try.func16 rfl (cS) ?_) | refine A_alloc rfl rfl 24 rfl inf24 (cs := [.t (.v (.int .i64 0)), .t (.v (.int .i64 0)), .t (.v (.int .i64 0)), .t (.v (.int .i64 0)), .t (.v (.int .i64 0)), .t (.v (.int .i64 0)), .t (.v (.int .i64 0)), .t (.v (.int .i64 0)), .t (.v (.int .i64 0)), .t (.v (.int .i64 0)), AV.nl]) rfl (.push qL qN) ?_ | refine A_store rfl rfl 24 _ _ rfl inf24 rfl rfl rfl rfl (Nat.le_of_ble_eq_true rfl) qN qN ?_ | (refine kL 0 rfl ?_; (first | refine A_mt rfl rfl rfl rfl ?_ | refine A_move rfl rfl _ (.inl rfl) (y := .ln _) rfl ?_)) | refine A_len rfl rfl 39 _ rfl ud39 rfl ?_ | refine A_cmp (d := 15) rfl rfl (c := true) .gtr 3 3 _ _ rfl rfl rfl (by exact congrArg some (decide_eq_true (by (try (dsimp only; fail_if_success done)); omega))) ?_ | (refine kL 19 rfl ?_; refine A_pkt rfl rfl _ _ _ rfl rfl rfl ?_) | (refine kL 490 rfl ?_; refine A_cl rfl rfl Try.func15 rfl (cA) ?_) | refine AL.nil ?_ | refine AL.skip rfl rfl ?_)) | (with_reducible (first | refine wk0 ?_ | refine wk2 ?_ | refine wk3 ?_ | refine wk9 ?_ | refine wkb ?_)) | refine kct rfl ?_ | with_reducible refine AW.at_region _ ?_)
      all_goals first | (exfalso; omega) | (exact Fin.q Try.results5 (.cons (.tmp rfl) .nil) [])
end Go.Proofs.Ytphcebioiipdpaa

