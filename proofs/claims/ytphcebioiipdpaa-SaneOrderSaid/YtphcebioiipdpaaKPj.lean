/- Joined: XTIdxF, XTSane, XTSaneB, XTShutR, XTHallR, XTHallH, XTHallT, XTLaw12, XTMove35, XTLaw35. -/
import Derived.Test.YtphcebioiipdpaaKPe
import Derived.Test.YtphcebioiipdpaaKPc
import Derived.Test.YtphcebioiipdpaaKPh
import Derived.Test.YtphcebioiipdpaaKPi
import Derived.Test.YtphcebioiipdpaaKPf
import Derived.Test.YtphcebioiipdpaaKPg
namespace Go.Proofs.Ytphcebioiipdpaa
set_option linter.unusedVariables false
set_option linter.unusedSimpArgs false
set_option linter.unnecessarySimpa false
open Go.RowKit
set_option maxHeartbeats 32000000
attribute [local irreducible] AL AW RG Fin C Cd Cio thenQ blockQ retQ
set_option maxRecDepth 100000
theorem ixF_any {α : Type} (p : α → Bool) (l : List α) : decide (0 ≤ ixF p l) = l.any p := by
  cases h : l.any p
  · refine decide_eq_false fun h2 => ?_
    obtain ⟨a, ha, hp⟩ := ixF_get p l h2
    rw [List.any_eq_false] at h
    exact h a (List.mem_of_getElem? ha) hp
  · obtain ⟨a, ha, hp⟩ := List.any_eq_true.1 h
    obtain ⟨q, hq⟩ := List.getElem?_of_mem ha
    exact decide_eq_true (ixF_yes p hq hp)
set_option maxHeartbeats 8000000 in
theorem idxFI_c (f : FuncId) (fi cap : List AV) (p : Int → Bool) (l : List Int) (hg : ∀ c ∈ l, CV Try.prog (.fn (.func f) fi cap) [i64 c] (.t (.v (.bool (p c)))) []) (hup : upB (keepG 0) (.fn (.func f) fi cap) = .fn (.func f) fi cap)
    (hl : l.length ≤ 1152921504606846976) : Cd Try.prog 105 [.ln (l.map tI), .fn (.func f) fi cap] (i64 (ixF p l)) [] := by
  have h1 : (l.map tI).length = l.length := List.length_map _
  refine Cd.enter' Try.func105 rfl Try.ntmps105 rfl ?_
  repeat' (first | ((with_reducible refine kAL ?_); (first | refine A_as rfl rfl rfl rfl ?_ | (refine kL 0 rfl ?_; (first | refine A_mt rfl rfl rfl rfl ?_ | refine A_move rfl rfl _ (.inl rfl) (y := .ln _) rfl ?_)) | refine A_len rfl rfl 22 _ rfl ud22 rfl ?_ | refine AL.nil ?_)) | with_reducible refine AW.at_region _ ?_ | (with_reducible (first | refine wk0 ?_ | refine wk1 ?_ | refine wk2 ?_)))
  refine AW.loopP (fun (q : Nat) => q ≤ l.length ∧ ∀ j, j < q → ∀ b, l[j]? = some b → p b = false) (fun (q : Nat) => (pu (pu (pu (pu (fun _ => .any) 0 (.ln (l.map tI))) 1 (.fn (.func f) fi cap)) 7 (i64 (l.map tI).length)) 8 (i64 q))) (fun (q : Nat) => []) (fun (q : Nat) => l.length - q) (0) ?_ ?_ ?_
  · exact ⟨Nat.zero_le _, fun j hj => by omega⟩
  · exact Wk.cq 0
  · rintro q ⟨h2, h3⟩
    by_cases hq : q < l.length
    · obtain ⟨a, ha⟩ : ∃ a, l[q]? = some a := ⟨_, List.getElem?_eq_getElem hq⟩
      have c1 := hg a (List.mem_of_getElem? ha)
      cases hp : p a
      · rw [hp] at c1
        repeat' (first | ((with_reducible refine kAL ?_); (first | refine A_as rfl rfl rfl rfl ?_ | (refine kL 0 rfl ?_; (first | refine A_mt rfl rfl rfl rfl ?_ | refine A_move rfl rfl _ (.inl rfl) (y := .ln _) rfl ?_ | refine A_move rfl rfl _ (.inl rfl) (y := .fn _ _ _) rfl ?_)) | (refine kL 105 rfl ?_; (first | refine A_cmp (d := 9) rfl rfl (c := true) .lss 3 3 _ _ rfl rfl rfl (by exact congrArg some (decide_eq_true (by (try (dsimp only; fail_if_success done)); omega))) ?_ | refine A_add rfl rfl 3 3 _ _ rfl rfl rfl (by exact wi) ?_)) | (refine kL 710 rfl ?_; refine A_idx rfl rfl 22 _ _ rfl ud22 inf3 (by decide) (by exact .inl rfl) rfl (by omega) _ (by with_reducible exact Int.toNat_natCast _) (by exact map_get (by assumption)) rfl (cs' := [_]) rfl ?_) | refine A_load_lp rfl rfl 3 _ rfl ud3 rfl rfl rfl ?_ | (refine kL 11 rfl ?_; refine A_callv rfl rfl rfl rfl (c1) (by ((repeat (first | exact .nil | refine .cons ?_ ?_ | exact .t _)); (first | done | fail))) qL qU qU qN ?_) | refine AL.nil ?_)) | with_reducible refine AW.at_region _ ?_ | (with_reducible (first | refine wk0 ?_ | refine wk1 ?_ | refine wk2 ?_ | refine wk5 ?_ | refine wkd ?_)) | refine kct rfl ?_ | refine kcf rfl ?_)
        all_goals first | (exfalso; omega) | skip
        refine ⟨q + 1, ⟨by omega, fun j hj b hb => ?_⟩, by omega, ?_⟩
        · by_cases e : j = q
          · subst e; rw [ha] at hb; cases hb; exact hp
          · exact h3 j (by omega) b hb
        · exact Wk.cq 0
      · rw [hp] at c1
        rw [ixF_at p l q a h3 ha hp]
        repeat' (first | ((with_reducible refine kAL ?_); (first | refine A_as rfl rfl rfl rfl ?_ | (refine kL 0 rfl ?_; (first | refine A_mt rfl rfl rfl rfl ?_ | refine A_move rfl rfl _ (.inl rfl) (y := .ln _) rfl ?_ | refine A_move rfl rfl _ (.inl rfl) (y := .fn _ _ _) rfl ?_)) | refine A_cmp (d := 9) rfl rfl (c := true) .lss 3 3 _ _ rfl rfl rfl (by exact congrArg some (decide_eq_true (by (try (dsimp only; fail_if_success done)); omega))) ?_ | (refine kL 710 rfl ?_; refine A_idx rfl rfl 22 _ _ rfl ud22 inf3 (by decide) (by exact .inl rfl) rfl (by omega) _ (by with_reducible exact Int.toNat_natCast _) (by exact map_get (by assumption)) rfl (cs' := [_]) rfl ?_) | refine A_load_lp rfl rfl 3 _ rfl ud3 rfl rfl rfl ?_ | (refine kL 11 rfl ?_; refine A_callv rfl rfl rfl rfl (c1) (by ((repeat (first | exact .nil | refine .cons ?_ ?_ | exact .t _)); (first | done | fail))) qL qU qU qN ?_) | refine AL.nil ?_)) | with_reducible refine AW.at_region _ ?_ | (with_reducible (first | refine wk0 ?_ | refine wk1 ?_ | refine wk2 ?_ | refine wk3 ?_ | refine wk6 ?_ | refine wk9 ?_ | refine wkb ?_ | refine wkd ?_)) | refine kct rfl ?_)
        all_goals first | (exfalso; omega) | (exact Fin.q Try.results105 (.cons (.tmp rfl) .nil) [])
    · rw [ixF_none p l fun j b hb => h3 j (by have := get_lt hb; omega) b hb]
      repeat' (first | ((with_reducible refine kAL ?_); (first | refine A_as rfl rfl rfl rfl ?_ | refine A_cmp (d := 9) rfl rfl (c := false) .lss 3 3 _ _ rfl rfl rfl (by exact congrArg some (decide_eq_false (by (try (dsimp only; fail_if_success done)); omega))) ?_ | refine AL.nil ?_)) | with_reducible refine AW.at_region _ ?_ | (with_reducible (first | refine wk0 ?_ | refine wk2 ?_ | refine wk4 ?_ | refine wk7 ?_ | refine wk9 ?_ | refine wkb ?_ | refine wkc ?_)) | refine kcf rfl ?_)
      all_goals first | (exfalso; omega) | (exact Fin.q Try.results105 (.cons (.tmp rfl) .nil) [])
set_option maxHeartbeats 8000000 in
theorem idxFK_c (f : FuncId) (fi cap : List AV) (p : DCase → Bool) (l : List DCase) (hg : ∀ c ∈ l, CV Try.prog (.fn (.func f) fi cap) [.agg ((tCs c).map .t)] (.t (.v (.bool (p c)))) []) (hup : upB (keepG 0) (.fn (.func f) fi cap) = .fn (.func f) fi cap)
    (hl : l.length ≤ 1152921504606846976) : Cd Try.prog 104 [.ln (l.map tCs), .fn (.func f) fi cap] (i64 (ixF p l)) [] := by
  have h1 : (l.map tCs).length = l.length := List.length_map _
  refine Cd.enter' Try.func104 rfl Try.ntmps104 rfl ?_
  repeat' (first | ((with_reducible refine kAL ?_); (first | refine A_as rfl rfl rfl rfl ?_ | (refine kL 0 rfl ?_; (first | refine A_mt rfl rfl rfl rfl ?_ | refine A_move rfl rfl _ (.inl rfl) (y := .ln _) rfl ?_)) | refine A_len rfl rfl 30 _ rfl ud30 rfl ?_ | refine AL.nil ?_)) | with_reducible refine AW.at_region _ ?_ | (with_reducible (first | refine wk0 ?_ | refine wk1 ?_ | refine wk2 ?_)))
  refine AW.loopP (fun (q : Nat) => q ≤ l.length ∧ ∀ j, j < q → ∀ b, l[j]? = some b → p b = false) (fun (q : Nat) => (pu (pu (pu (pu (fun _ => .any) 0 (.ln (l.map tCs))) 1 (.fn (.func f) fi cap)) 7 (i64 (l.map tCs).length)) 8 (i64 q))) (fun (q : Nat) => []) (fun (q : Nat) => l.length - q) (0) ?_ ?_ ?_
  · exact ⟨Nat.zero_le _, fun j hj => by omega⟩
  · exact Wk.cq 0
  · rintro q ⟨h2, h3⟩
    by_cases hq : q < l.length
    · obtain ⟨a, ha⟩ : ∃ a, l[q]? = some a := ⟨_, List.getElem?_eq_getElem hq⟩
      have c1 := hg a (List.mem_of_getElem? ha)
      cases hp : p a
      · rw [hp] at c1
        repeat' (first | ((with_reducible refine kAL ?_); (first | refine A_as rfl rfl rfl rfl ?_ | (refine kL 0 rfl ?_; (first | refine A_mt rfl rfl rfl rfl ?_ | refine A_move rfl rfl _ (.inl rfl) (y := .ln _) rfl ?_ | refine A_move rfl rfl _ (.inl rfl) (y := .fn _ _ _) rfl ?_)) | (refine kL 105 rfl ?_; (first | refine A_cmp (d := 9) rfl rfl (c := true) .lss 3 3 _ _ rfl rfl rfl (by exact congrArg some (decide_eq_true (by (try (dsimp only; fail_if_success done)); omega))) ?_ | refine A_add rfl rfl 3 3 _ _ rfl rfl rfl (by exact wi) ?_)) | (refine kL 966 rfl ?_; refine A_idx rfl rfl 30 _ _ rfl ud30 inf45 (by decide) (by exact .inl rfl) rfl (by omega) _ (by with_reducible exact Int.toNat_natCast _) (by exact map_get (by assumption)) rfl (cs' := [_, _, _]) rfl ?_) | refine A_load_lp_agg rfl rfl 45 _ rfl ud45 rfl inf45 rfl (us' := [_, _, _]) rfl rfl ?_ | (refine kL 11 rfl ?_; refine A_callv rfl rfl rfl rfl (c1) (by ((repeat (first | exact .nil | refine .cons ?_ ?_ | exact .t _ | refine .aggL ?_)); (first | done | fail))) qL qU qU qN ?_) | refine AL.nil ?_)) | with_reducible refine AW.at_region _ ?_ | (with_reducible (first | refine wk0 ?_ | refine wk1 ?_ | refine wk2 ?_ | refine wk5 ?_ | refine wkd ?_)) | refine kct rfl ?_ | refine kcf rfl ?_)
        all_goals first | (exfalso; omega) | skip
        refine ⟨q + 1, ⟨by omega, fun j hj b hb => ?_⟩, by omega, ?_⟩
        · by_cases e : j = q
          · subst e; rw [ha] at hb; cases hb; exact hp
          · exact h3 j (by omega) b hb
        · exact Wk.cq 0
      · rw [hp] at c1
        rw [ixF_at p l q a h3 ha hp]
        repeat' (first | ((with_reducible refine kAL ?_); (first | refine A_as rfl rfl rfl rfl ?_ | (refine kL 0 rfl ?_; (first | refine A_mt rfl rfl rfl rfl ?_ | refine A_move rfl rfl _ (.inl rfl) (y := .ln _) rfl ?_ | refine A_move rfl rfl _ (.inl rfl) (y := .fn _ _ _) rfl ?_)) | refine A_cmp (d := 9) rfl rfl (c := true) .lss 3 3 _ _ rfl rfl rfl (by exact congrArg some (decide_eq_true (by (try (dsimp only; fail_if_success done)); omega))) ?_ | (refine kL 966 rfl ?_; refine A_idx rfl rfl 30 _ _ rfl ud30 inf45 (by decide) (by exact .inl rfl) rfl (by omega) _ (by with_reducible exact Int.toNat_natCast _) (by exact map_get (by assumption)) rfl (cs' := [_, _, _]) rfl ?_) | refine A_load_lp_agg rfl rfl 45 _ rfl ud45 rfl inf45 rfl (us' := [_, _, _]) rfl rfl ?_ | (refine kL 11 rfl ?_; refine A_callv rfl rfl rfl rfl (c1) (by ((repeat (first | exact .nil | refine .cons ?_ ?_ | exact .t _ | refine .aggL ?_)); (first | done | fail))) qL qU qU qN ?_) | refine AL.nil ?_)) | with_reducible refine AW.at_region _ ?_ | (with_reducible (first | refine wk0 ?_ | refine wk1 ?_ | refine wk2 ?_ | refine wk3 ?_ | refine wk6 ?_ | refine wk9 ?_ | refine wkb ?_ | refine wkd ?_)) | refine kct rfl ?_)
        all_goals first | (exfalso; omega) | (exact Fin.q Try.results104 (.cons (.tmp rfl) .nil) [])
    · rw [ixF_none p l fun j b hb => h3 j (by have := get_lt hb; omega) b hb]
      repeat' (first | ((with_reducible refine kAL ?_); (first | refine A_as rfl rfl rfl rfl ?_ | refine A_cmp (d := 9) rfl rfl (c := false) .lss 3 3 _ _ rfl rfl rfl (by exact congrArg some (decide_eq_false (by (try (dsimp only; fail_if_success done)); omega))) ?_ | refine AL.nil ?_)) | with_reducible refine AW.at_region _ ?_ | (with_reducible (first | refine wk0 ?_ | refine wk2 ?_ | refine wk4 ?_ | refine wk7 ?_ | refine wk9 ?_ | refine wkb ?_ | refine wkc ?_)) | refine kcf rfl ?_)
      all_goals first | (exfalso; omega) | (exact Fin.q Try.results104 (.cons (.tmp rfl) .nil) [])
theorem conFK_c (f : FuncId) (fi cap : List AV) (p : DCase → Bool) (l : List DCase) (hg : ∀ c ∈ l, CV Try.prog (.fn (.func f) fi cap) [.agg ((tCs c).map .t)] (.t (.v (.bool (p c)))) []) (hup : upB (keepG 0) (.fn (.func f) fi cap) = .fn (.func f) fi cap) (hps : ∀ heap sel, Pass heap sel (.fn (.func f) fi cap) (.fn (.func f) fi cap))
    (hl : l.length ≤ 1152921504606846976) : Cd Try.prog 82 [.ln (l.map tCs), .fn (.func f) fi cap] (bo (l.any p)) [] := by
  have c1 := idxFK_c f fi cap p l hg hup hl
  rw [← ixF_any]
  refine Cd.enter' Try.func82 rfl Try.ntmps82 rfl ?_
  by_cases h : 0 ≤ ixF p l
  · rw [decide_eq_true h]
    repeat' (first | ((with_reducible refine kAL ?_); (first | refine A_as rfl rfl rfl rfl ?_ | (refine kL 0 rfl ?_; (first | refine A_move rfl rfl _ (.inl rfl) (y := .ln _) rfl ?_ | refine A_move rfl rfl _ (.inl rfl) (y := .fn _ _ _) rfl ?_)) | (refine kL 3338 rfl ?_; refine A_cl rfl rfl Try.func104 rfl (c1) ?_) | refine A_cmp (d := 8) rfl rfl (c := true) .geq 3 3 _ _ rfl rfl rfl (by exact congrArg some (decide_eq_true (by (try (dsimp only; fail_if_success done)); omega))) ?_ | refine AL.nil ?_)) | with_reducible refine AW.at_region _ ?_ | (with_reducible (first | refine wk0 ?_ | refine wk2 ?_ | refine wk9 ?_ | refine wkb ?_)))
    all_goals first | (exfalso; omega) | (exact Fin.q Try.results82 (.cons (.tmp rfl) .nil) [])
  · rw [decide_eq_false h]
    repeat' (first | ((with_reducible refine kAL ?_); (first | refine A_as rfl rfl rfl rfl ?_ | (refine kL 0 rfl ?_; (first | refine A_move rfl rfl _ (.inl rfl) (y := .ln _) rfl ?_ | refine A_move rfl rfl _ (.inl rfl) (y := .fn _ _ _) rfl ?_)) | (refine kL 3338 rfl ?_; refine A_cl rfl rfl Try.func104 rfl (c1) ?_) | refine A_cmp (d := 8) rfl rfl (c := false) .geq 3 3 _ _ rfl rfl rfl (by exact congrArg some (decide_eq_false (by (try (dsimp only; fail_if_success done)); omega))) ?_ | refine AL.nil ?_)) | with_reducible refine AW.at_region _ ?_ | (with_reducible (first | refine wk0 ?_ | refine wk2 ?_ | refine wk9 ?_ | refine wkb ?_)))
    all_goals first | (exfalso; omega) | (exact Fin.q Try.results82 (.cons (.tmp rfl) .nil) [])
end Go.Proofs.Ytphcebioiipdpaa


namespace Go.Proofs.Ytphcebioiipdpaa
set_option linter.unusedVariables false
set_option linter.unusedSimpArgs false
set_option linter.unnecessarySimpa false
open Go.RowKit
set_option maxHeartbeats 32000000
attribute [local irreducible] AL AW RG Fin C Cd Cio thenQ blockQ retQ
set_option maxRecDepth 100000
theorem fnd_sI {h : DHall} {x : Int} (hf : fndOk h x = true) : sI x := by
  obtain ⟨_, _, e1, _⟩ := fnd_yes hf
  have hb : 8 ≤ x ∧ x ≤ 32767 := by unfold plOk at e1; exact of_decide_eq_true e1
  unfold sI; omega
set_option maxHeartbeats 8000000 in
theorem snHandles_c (h : DHall) (hh : okHl h) (hd : ∀ w ∈ h.waits, ∀ k ∈ w.cases, fndOk h k.handle = true) : Cd Try.prog 56 [aHl h] (bo true) [] := by
  have h1 : (h.waits.map tWt).length = h.waits.length := List.length_map _
  have hw0 := hh.w.1
  refine Cd.enter' Try.func56 rfl Try.ntmps56 rfl ?_
  repeat' (first | ((with_reducible refine kAL ?_); (first | refine A_box rfl rfl 29 _ rfl rfl (.push qL qN) ?_ | refine A_as rfl rfl rfl rfl ?_ | refine A_field rfl rfl 29 _ 2 rfl ud29 rfl inf26 (by decide) 2 rfl rfl ?_ | refine A_load rfl rfl 26 _ rfl ud26 rfl rfl rfl rfl ?_ | refine A_len rfl rfl 26 _ rfl ud26 rfl ?_ | refine A_mt rfl rfl rfl rfl ?_ | refine AL.nil ?_)) | with_reducible refine AW.at_region _ ?_ | (with_reducible (first | refine wk0 ?_ | refine wk1 ?_ | refine wk2 ?_)))
  all_goals first | (exfalso; omega) | skip
  refine AW.loopP (fun (q : Nat) => q ≤ h.waits.length) (fun (q : Nat) => (pu (pu (pu (pu (fun _ => .any) 1 (.ptr 0 0)) 10 (.ln (h.waits.map tWt))) 11 (i64 (h.waits.map tWt).length)) 12 (i64 q))) (fun (q : Nat) => [.box 29 [i64 h.ticket, .ln (h.chans.map tCh), .ln (h.waits.map tWt), .ln (h.done.map tR)]]) (fun (q : Nat) => h.waits.length - q) (0) ?_ ?_ ?_
  · exact Nat.zero_le _
  · exact Wk.cq 1
  · intro q hq
    by_cases hi : q < h.waits.length
    · obtain ⟨w, hx⟩ : ∃ x, h.waits[q]? = some x := ⟨_, List.getElem?_eq_getElem hi⟩
      have hk := hd w (List.mem_of_getElem? hx)
      have hcs := hh.w.at hx
      obtain ⟨on, tk, sq, cs⟩ := w
      dsimp only at hcs hk
      have h2 : (cs.map tCs).length = cs.length := List.length_map _
      repeat' (first | ((with_reducible refine kAL ?_); (first | refine A_len rfl rfl 30 _ rfl ud30 rfl ?_ | refine A_mt rfl rfl rfl rfl ?_ | refine A_cmp (d := 13) rfl rfl (c := true) .lss 3 3 _ _ rfl rfl rfl (by exact congrArg some (decide_eq_true (by (try (dsimp only; fail_if_success done)); omega))) ?_ | (refine kL 838 rfl ?_; refine A_idx rfl rfl 26 _ _ rfl ud26 inf43 (by decide) (by exact .inl rfl) rfl (by omega) _ (by with_reducible exact Int.toNat_natCast _) (by exact map_get (by assumption)) rfl (cs' := [_, _, _, _]) rfl ?_) | refine A_load_lp_agg rfl rfl 43 _ rfl ud43 rfl inf43 rfl (us' := [_, _, _, _]) rfl rfl ?_ | refine A_alloc rfl rfl 43 rfl inf43 (cs := [.t (.v (.bool false)), .t (.v (.int .i64 0)), .t (.v (.int .i64 0)), AV.nl]) rfl (.push qL qN) ?_ | refine A_store rfl rfl 43 _ _ rfl inf43 rfl rfl rfl rfl (Nat.le_of_ble_eq_true rfl) qN qN ?_ | refine A_field rfl rfl 43 _ 3 rfl ud43 rfl inf30 (by decide) 3 rfl rfl ?_ | refine A_load rfl rfl 30 _ rfl ud30 rfl rfl rfl rfl ?_ | refine AL.nil ?_)) | with_reducible refine AW.at_region _ ?_ | (with_reducible (first | refine wk0 ?_ | refine wk1 ?_ | refine wk2 ?_ | refine wkd ?_)) | refine kct rfl ?_)
      all_goals first | (exfalso; omega) | skip
      refine AW.loopP (fun (p : Nat) => p ≤ cs.length) (fun (p : Nat) => (pu (pu (pu (pu (pu (pu (pu (fun _ => .any) 1 (.ptr 0 0)) 10 (.ln (h.waits.map tWt))) 11 (i64 (h.waits.map tWt).length)) 12 (i64 q)) 17 (.t (.lst (cs.map tCs)))) 18 (i64 (cs.map tCs).length)) 19 (i64 p))) (fun (p : Nat) => [.box 29 [i64 h.ticket, .ln (h.chans.map tCh), .ln (h.waits.map tWt), .ln (h.done.map tR)]]) (fun (p : Nat) => cs.length - p) (0) ?_ ?_ ?_
      · exact Nat.zero_le _
      · exact Wk.cq 1
      · intro p hp
        by_cases hj : p < cs.length
        · obtain ⟨k, hkx⟩ : ∃ x, cs[p]? = some x := ⟨_, List.getElem?_eq_getElem hj⟩
          have hf := hk k (List.mem_of_getElem? hkx)
          have cF := find_c h k.handle (fnd_sI hf) hh.c
          rw [hf] at cF
          obtain ⟨d, hd', v⟩ := k
          dsimp only at cF
          generalize fndP h hd' = fp at cF
          repeat' (first | ((with_reducible refine kAL ?_); (first | refine A_as rfl rfl rfl rfl ?_ | (refine kL 0 rfl ?_; (first | refine A_mt rfl rfl rfl rfl ?_ | refine A_move rfl rfl _ (.inl rfl) (y := .tup _) rfl ?_)) | (refine kL 105 rfl ?_; (first | refine A_cmp (d := 20) rfl rfl (c := true) .lss 3 3 _ _ rfl rfl rfl (by exact congrArg some (decide_eq_true (by (try (dsimp only; fail_if_success done)); omega))) ?_ | refine A_add rfl rfl 3 3 _ _ rfl rfl rfl (by exact wi) ?_)) | (refine kL 966 rfl ?_; refine A_idx rfl rfl 30 _ _ rfl ud30 inf45 (by decide) (by exact .inr rfl) rfl (by omega) _ (by with_reducible exact Int.toNat_natCast _) (by exact map_get (by assumption)) rfl (cs' := [_, _, _]) rfl ?_) | refine A_load_lp_agg rfl rfl 45 _ rfl ud45 rfl inf45 rfl (us' := [_, _, _]) rfl rfl ?_ | refine A_alloc rfl rfl 45 rfl inf45 (cs := [.t (.v (.int .i64 0)), .t (.v (.int .i64 0)), .t (.v (.int .i64 0))]) rfl (.push qL qN) ?_ | refine A_store rfl rfl 45 _ _ rfl inf45 rfl rfl rfl rfl (Nat.le_of_ble_eq_true rfl) qN qN ?_ | refine A_load_agg rfl rfl 29 _ rfl ud29 rfl inf29 rfl rfl (us' := [_, _, _, _]) rfl rfl ?_ | refine A_field rfl rfl 45 _ 1 rfl ud45 rfl inf3 (by decide) 1 rfl rfl ?_ | refine A_load rfl rfl 3 _ rfl ud3 rfl rfl rfl rfl ?_ | (refine kL 618 rfl ?_; refine A_cl rfl rfl Try.func19 rfl (cF) ?_) | (refine kL 18 rfl ?_; (first | refine A_extract rfl rfl _ 0 rfl rfl rfl ?_ | refine A_extract rfl rfl _ 1 rfl rfl rfl ?_)) | refine A_not rfl rfl _ _ rfl rfl ?_ | refine AL.nil ?_)) | with_reducible refine AW.at_region _ ?_ | (with_reducible (first | refine wk0 ?_ | refine wk1 ?_ | refine wk2 ?_ | refine wk5 ?_ | refine wkd ?_)) | refine kct rfl ?_ | refine kcf rfl ?_)
          all_goals first | (exfalso; omega) | skip
          refine ⟨p + 1, by omega, by omega, ?_⟩
          exact Wk.cq 1
        · repeat' (first | ((with_reducible refine kAL ?_); (first | refine A_mt rfl rfl rfl rfl ?_ | (refine kL 105 rfl ?_; (first | refine A_cmp (d := 20) rfl rfl (c := false) .lss 3 3 _ _ rfl rfl rfl (by exact congrArg some (decide_eq_false (by (try (dsimp only; fail_if_success done)); omega))) ?_ | refine A_add rfl rfl 3 3 _ _ rfl rfl rfl (by exact wi) ?_)) | refine AL.nil ?_)) | with_reducible refine AW.at_region _ ?_ | (with_reducible (first | refine wk0 ?_ | refine wk2 ?_ | refine wk4 ?_ | refine wk5 ?_ | refine wk7 ?_ | refine wkc ?_)) | refine kcf rfl ?_)
          all_goals first | (exfalso; omega) | skip
          refine ⟨q + 1, by omega, by omega, ?_⟩
          exact Wk.cq 1
    · repeat' (first | ((with_reducible refine kAL ?_); (first | refine A_as rfl rfl rfl rfl ?_ | refine A_cmp (d := 13) rfl rfl (c := false) .lss 3 3 _ _ rfl rfl rfl (by exact congrArg some (decide_eq_false (by (try (dsimp only; fail_if_success done)); omega))) ?_ | refine AL.nil ?_)) | with_reducible refine AW.at_region _ ?_ | (with_reducible (first | refine wk0 ?_ | refine wk2 ?_ | refine wk4 ?_ | refine wk7 ?_ | refine wk9 ?_ | refine wkb ?_ | refine wkc ?_)) | refine kcf rfl ?_)
      all_goals first | (exfalso; omega) | (exact Fin.q Try.results56 (.cons (.tmp rfl) .nil) [])
structure TkR where
  q : Nat
  k : Nat
  n : Nat
  M : List Int
set_option maxHeartbeats 8000000 in
theorem snTickets_c (h : DHall) (hh : okHl h) (tk : ∀ w ∈ h.waits, w.on = true → 0 ≤ w.ticket ∧ w.ticket < h.ticket) (tn : ∀ (i j : Nat) w w', h.waits[i]? = some w → h.waits[j]? = some w' → w.on = true → w'.on = true → w.ticket = w'.ticket → i = j) : Cd Try.prog 57 [aHl h] (bo true) [] := by
  have h1 : (h.waits.map tWt).length = h.waits.length := List.length_map _
  have hw0 := hh.w.1
  refine Cd.enter' Try.func57 rfl Try.ntmps57 rfl ?_
  repeat' (first | ((with_reducible refine kAL ?_); (first | refine A_box rfl rfl 29 _ rfl rfl (.push qL qN) ?_ | (refine kL 1 rfl ?_; (first | refine A_as rfl rfl rfl rfl ?_ | refine A_move rfl rfl _ (.inr rfl) (y := .nl) rfl ?_)) | refine A_field rfl rfl 29 _ 2 rfl ud29 rfl inf26 (by decide) 2 rfl rfl ?_ | refine A_load rfl rfl 26 _ rfl ud26 rfl rfl rfl rfl ?_ | refine A_len rfl rfl 26 _ rfl ud26 rfl ?_ | refine A_mt rfl rfl rfl rfl ?_ | refine AL.nil ?_)) | with_reducible refine AW.at_region _ ?_ | (with_reducible (first | refine wk0 ?_ | refine wk1 ?_ | refine wk2 ?_)))
  all_goals first | (exfalso; omega) | skip
  refine AW.wk (Wk.own 3 rfl 3 1 (.push rfl rfl)) ?_
  refine AW.loopP (fun (x : TkR) => x.q ≤ h.waits.length ∧ x.M.length = x.n ∧ x.n ≤ x.q ∧ ∀ z ∈ x.M, ∃ (j : Nat) (w : DWait), j < x.q ∧ h.waits[j]? = some w ∧ w.on = true ∧ w.ticket = z) (fun (x : TkR) => (pu (pu (pu (pu (pu (fun _ => .any) 1 (.ptr 0 0)) 3 (.sl 1 x.k x.n)) 7 (.ln (h.waits.map tWt))) 8 (i64 (h.waits.map tWt).length)) 9 (i64 x.q))) (fun (x : TkR) => [.box 29 [i64 h.ticket, .ln (h.chans.map tCh), .ln (h.waits.map tWt), .ln (h.done.map tR)], .row x.k 3 1 (x.M.map tI)]) (fun (x : TkR) => h.waits.length - x.q) (⟨0, 0, 0, []⟩) ?_ ?_ ?_
  · exact ⟨Nat.zero_le _, rfl, Nat.le_refl _, fun z hz => by cases hz⟩
  · exact Wk.cq 2
  · rintro ⟨q, k, n, M⟩ ⟨h2, h3, h4, h5⟩
    dsimp only at h2 h3 h4 h5 ⊢
    have h6 : (M.map tI).length = n := by rw [List.length_map, h3]
    by_cases hi : q < h.waits.length
    · obtain ⟨w, hx⟩ : ∃ x, h.waits[q]? = some x := ⟨_, List.getElem?_eq_getElem hi⟩
      have hm := List.mem_of_getElem? hx
      have h5' : ∀ z ∈ M, ∃ (j : Nat) (w : DWait), j < q + 1 ∧ h.waits[j]? = some w ∧ w.on = true ∧ w.ticket = z := fun z hz => by
        obtain ⟨j, w, a, b⟩ := h5 z hz; exact ⟨j, w, by omega, b⟩
      cases ho : w.on
      · obtain ⟨on, t, sq, cs⟩ := w
        dsimp only at ho
        subst ho
        repeat' (first | ((with_reducible refine kAL ?_); (first | refine A_mt rfl rfl rfl rfl ?_ | (refine kL 105 rfl ?_; (first | refine A_cmp (d := 10) rfl rfl (c := true) .lss 3 3 _ _ rfl rfl rfl (by exact congrArg some (decide_eq_true (by (try (dsimp only; fail_if_success done)); omega))) ?_ | refine A_add rfl rfl 3 3 _ _ rfl rfl rfl (by exact wi) ?_)) | (refine kL 838 rfl ?_; refine A_idx rfl rfl 26 _ _ rfl ud26 inf43 (by decide) (by exact .inl rfl) rfl (by omega) _ (by with_reducible exact Int.toNat_natCast _) (by exact map_get (by assumption)) rfl (cs' := [_, _, _, _]) rfl ?_) | refine A_load_lp_agg rfl rfl 43 _ rfl ud43 rfl inf43 rfl (us' := [_, _, _, _]) rfl rfl ?_ | refine A_alloc rfl rfl 43 rfl inf43 (cs := [.t (.v (.bool false)), .t (.v (.int .i64 0)), .t (.v (.int .i64 0)), AV.nl]) rfl (.push qL qN) ?_ | refine A_store rfl rfl 43 _ _ rfl inf43 rfl rfl rfl rfl (Nat.le_of_ble_eq_true rfl) qN qN ?_ | refine A_field rfl rfl 43 _ 0 rfl ud43 rfl inf4 (by decide) 0 rfl rfl ?_ | refine A_load rfl rfl 4 _ rfl ud4 rfl rfl rfl rfl ?_ | refine A_not rfl rfl _ _ rfl rfl ?_ | refine AL.nil ?_)) | with_reducible refine AW.at_region _ ?_ | (with_reducible (first | refine wk0 ?_ | refine wk1 ?_ | refine wk2 ?_ | refine wk4 ?_ | refine wk7 ?_ | refine wkc ?_ | refine wkd ?_)) | refine kct rfl ?_)
        all_goals first | (exfalso; omega) | skip
        refine ⟨⟨q + 1, k, n, M⟩, ⟨by dsimp only; omega, h3, by dsimp only; omega, h5'⟩, by dsimp only; omega, ?_⟩
        exact Wk.cq 2
      · have ht := tk w hm ho
        have hno : w.ticket ∉ M := fun hz => by
          obtain ⟨j, w', a, b, c, d⟩ := h5 _ hz
          have := tn j q w' w b hx c ho d
          omega
        have cK := containsI_c M w.ticket (by omega)
        rw [decide_eq_false hno] at cK
        have h7 : ∀ z ∈ M ++ [w.ticket], ∃ (j : Nat) (w : DWait), j < q + 1 ∧ h.waits[j]? = some w ∧ w.on = true ∧ w.ticket = z := fun z hz => by
          rcases List.mem_append.1 hz with hz | hz
          · exact h5' z hz
          · exact ⟨q, w, by omega, hx, ho, (List.mem_singleton.1 hz).symm⟩
        clear h5 h5' hno
        obtain ⟨on, t, sq, cs⟩ := w
        dsimp only at ho ht cK h7
        subst ho
        repeat' (first | ((with_reducible refine kAL ?_); (first | refine A_move rfl rfl _ (.inr rfl) (y := .sl _ _ _) rfl ?_ | refine A_field rfl rfl 29 _ 0 rfl ud29 rfl inf3 (by decide) 0 rfl rfl ?_ | (refine kL 12 rfl ?_; refine A_append rfl rfl _ _ 22 rfl ud22 inf3 rfl rfl rfl (by (simp; omega)) (by exact .all rfl (by rfl)) qB qB (by exact app_one (f := tI) (x := _) (by omega)) qN qS ?_) | (refine kL 0 rfl ?_; (first | refine A_mt rfl rfl rfl rfl ?_ | refine A_move rfl rfl _ (.inl rfl) (y := .sl _ _ _) rfl ?_)) | (refine kL 105 rfl ?_; (first | refine A_cmp (d := 10) rfl rfl (c := true) .lss 3 3 _ _ rfl rfl rfl (by exact congrArg some (decide_eq_true (by (try (dsimp only; fail_if_success done)); omega))) ?_ | refine A_cmp (d := 18) rfl rfl (c := false) .lss 3 3 _ _ rfl rfl rfl (by exact congrArg some (decide_eq_false (by (try (dsimp only; fail_if_success done)); omega))) ?_ | refine A_cmp (d := 24) rfl rfl (c := false) .geq 3 3 _ _ rfl rfl rfl (by exact congrArg some (decide_eq_false (by (try (dsimp only; fail_if_success done)); omega))) ?_ | refine A_add rfl rfl 3 3 _ _ rfl rfl rfl (by exact wi) ?_)) | (refine kL 838 rfl ?_; refine A_idx rfl rfl 26 _ _ rfl ud26 inf43 (by decide) (by exact .inl rfl) rfl (by omega) _ (by with_reducible exact Int.toNat_natCast _) (by exact map_get (by assumption)) rfl (cs' := [_, _, _, _]) rfl ?_) | refine A_load_lp_agg rfl rfl 43 _ rfl ud43 rfl inf43 rfl (us' := [_, _, _, _]) rfl rfl ?_ | refine A_alloc rfl rfl 43 rfl inf43 (cs := [.t (.v (.bool false)), .t (.v (.int .i64 0)), .t (.v (.int .i64 0)), AV.nl]) rfl (.push qL qN) ?_ | refine A_store rfl rfl 43 _ _ rfl inf43 rfl rfl rfl rfl (Nat.le_of_ble_eq_true rfl) qN qN ?_ | (refine kL 1380 rfl ?_; (first | refine A_field rfl rfl 43 _ 0 rfl ud43 rfl inf4 (by decide) 0 rfl rfl ?_ | refine A_field rfl rfl 43 _ 1 rfl ud43 rfl inf3 (by decide) 1 rfl rfl ?_)) | refine A_load rfl rfl 4 _ rfl ud4 rfl rfl rfl rfl ?_ | refine A_not rfl rfl _ _ rfl rfl ?_ | refine A_load rfl rfl 3 _ rfl ud3 rfl rfl rfl rfl ?_ | (refine kL 19 rfl ?_; refine A_pkf rfl rfl _ _ _ rfl rfl rfl ?_) | (refine kL 2826 rfl ?_; refine A_cl rfl rfl Try.func88 rfl (cK) ?_) | (refine kL 719 rfl ?_; refine A_lit rfl rfl 22 1 _ rfl ud22 inf3 (.cons rfl .nil) (els := [[_]]) rfl (by exact (rfl : _ = List.map tI [_])) rfl (Nat.ne_of_beq_eq_false rfl) (Nat.le_of_ble_eq_true rfl) (Nat.le_of_ble_eq_true rfl) (.push qL qN) ?_) | refine AL.nil ?_)) | with_reducible refine AW.at_region _ ?_ | (with_reducible (first | refine wk0 ?_ | refine wk1 ?_ | refine wk2 ?_ | refine wk5 ?_ | refine wkd ?_)) | refine kct rfl ?_ | refine kcf rfl ?_)
        all_goals first | (exfalso; omega) | skip
        refine ⟨⟨q + 1, k + 1, n + 1, M ++ [t]⟩, ⟨by dsimp only; omega, by dsimp only; rw [List.length_append, h3]; rfl, by dsimp only; omega, h7⟩, by dsimp only; omega, ?_⟩
        exact Wk.cq 2
    · repeat' (first | ((with_reducible refine kAL ?_); (first | refine A_as rfl rfl rfl rfl ?_ | refine A_cmp (d := 10) rfl rfl (c := false) .lss 3 3 _ _ rfl rfl rfl (by exact congrArg some (decide_eq_false (by (try (dsimp only; fail_if_success done)); omega))) ?_ | refine AL.nil ?_)) | with_reducible refine AW.at_region _ ?_ | (with_reducible (first | refine wk0 ?_ | refine wk2 ?_ | refine wk4 ?_ | refine wk7 ?_ | refine wk9 ?_ | refine wkb ?_ | refine wkc ?_)) | refine kcf rfl ?_)
      all_goals first | (exfalso; omega) | (exact Fin.q Try.results57 (.cons (.tmp rfl) .nil) [])
set_option maxHeartbeats 8000000 in
theorem snDone_c (h : DHall) (hh : okHl h) (dn : Dn h.waits h.done) : Cd Try.prog 58 [aHl h] (bo true) [] := by
  have h1 : (h.waits.map tWt).length = h.waits.length := List.length_map _
  have h2 : (h.done.map tR).length = h.done.length := List.length_map _
  have hl := dn.ln
  have hw0 := hh.w.1
  refine Cd.enter' Try.func58 rfl Try.ntmps58 rfl ?_
  repeat' (first | ((with_reducible refine kAL ?_); (first | refine A_box rfl rfl 29 _ rfl rfl (.push qL qN) ?_ | refine A_as rfl rfl rfl rfl ?_ | (refine kL 932 rfl ?_; (first | refine A_field rfl rfl 29 _ 3 rfl ud29 rfl inf27 (by decide) 3 rfl rfl ?_ | refine A_field rfl rfl 29 _ 2 rfl ud29 rfl inf26 (by decide) 2 rfl rfl ?_)) | refine A_load rfl rfl 27 _ rfl ud27 rfl rfl rfl rfl ?_ | (refine kL 12 rfl ?_; (first | refine A_len rfl rfl 27 _ rfl ud27 rfl ?_ | refine A_len rfl rfl 26 _ rfl ud26 rfl ?_)) | refine A_load rfl rfl 26 _ rfl ud26 rfl rfl rfl rfl ?_ | refine A_cmp (d := 12) rfl rfl (c := false) .neq 3 3 _ _ rfl rfl rfl (by exact congrArg some (decide_eq_false (by (try (dsimp only; fail_if_success done)); omega))) ?_ | refine A_mt rfl rfl rfl rfl ?_ | refine AL.nil ?_)) | with_reducible refine AW.at_region _ ?_ | (with_reducible (first | refine wk0 ?_ | refine wk1 ?_ | refine wk2 ?_ | refine wkd ?_)) | refine kcf rfl ?_)
  all_goals first | (exfalso; omega) | skip
  refine AW.loopP (fun (q : Nat) => q ≤ h.waits.length) (fun (q : Nat) => (pu (pu (pu (pu (fun _ => .any) 1 (.ptr 0 0)) 14 (.ln (h.waits.map tWt))) 15 (i64 (h.waits.map tWt).length)) 16 (i64 q))) (fun (q : Nat) => [.box 29 [i64 h.ticket, .ln (h.chans.map tCh), .ln (h.waits.map tWt), .ln (h.done.map tR)]]) (fun (q : Nat) => h.waits.length - q) (0) ?_ ?_ ?_
  · exact Nat.zero_le _
  · exact Wk.cq 1
  · intro q hq
    by_cases hi : q < h.waits.length
    · obtain ⟨w, hx⟩ : ∃ x, h.waits[q]? = some x := ⟨_, List.getElem?_eq_getElem hi⟩
      obtain ⟨r, hy⟩ : ∃ x, h.done[q]? = some x := ⟨_, List.getElem?_eq_getElem (by omega)⟩
      obtain ⟨d1, d2⟩ := dn.cd q w r hx hy
      obtain ⟨on, t, sq, cs⟩ := w
      obtain ⟨ra, rb, rc, rd⟩ := r
      dsimp only at d1 d2
      cases on
      · have hc : ¬ rc = 14 := fun e => by have := d1.2 e; cases this
        repeat' (first | ((with_reducible refine kAL ?_); (first | refine A_as rfl rfl rfl rfl ?_ | refine A_field rfl rfl 29 _ 3 rfl ud29 rfl inf27 (by decide) 3 rfl rfl ?_ | refine A_load rfl rfl 27 _ rfl ud27 rfl rfl rfl rfl ?_ | (refine kL 105 rfl ?_; (first | refine A_cmp (d := 17) rfl rfl (c := true) .lss 3 3 _ _ rfl rfl rfl (by exact congrArg some (decide_eq_true (by (try (dsimp only; fail_if_success done)); omega))) ?_ | refine A_add rfl rfl 3 3 _ _ rfl rfl rfl (by first | exact wi | rfl) ?_)) | refine A_mt rfl rfl rfl rfl ?_ | (refine kL 838 rfl ?_; refine A_idx rfl rfl 26 _ _ rfl ud26 inf43 (by decide) (by exact .inl rfl) rfl (by omega) _ (by with_reducible exact Int.toNat_natCast _) (by exact map_get (by assumption)) rfl (cs' := [_, _, _, _]) rfl ?_) | refine A_load_lp_agg rfl rfl 43 _ rfl ud43 rfl inf43 rfl (us' := [_, _, _, _]) rfl rfl ?_ | refine A_alloc rfl rfl 43 rfl inf43 (cs := [.t (.v (.bool false)), .t (.v (.int .i64 0)), .t (.v (.int .i64 0)), AV.nl]) rfl (.push qL qN) ?_ | refine A_store rfl rfl 43 _ _ rfl inf43 rfl rfl rfl rfl (Nat.le_of_ble_eq_true rfl) qN qN ?_ | (refine kL 870 rfl ?_; refine A_idx rfl rfl 27 _ _ rfl ud27 inf50 (by decide) (by exact .inl rfl) rfl (by omega) _ (by with_reducible exact Int.toNat_natCast _) (by exact map_get (by assumption)) rfl (cs' := [_, _, _, _]) rfl ?_) | refine A_load_lp_agg rfl rfl 50 _ rfl ud50 rfl inf50 rfl (us' := [_, _, _, _]) rfl rfl ?_ | refine A_alloc rfl rfl 50 rfl inf50 (cs := [.t (.v (.int .i64 0)), .t (.v (.int .i64 0)), .t (.v (.int .i64 0)), .t (.v (.int .i64 0))]) rfl (.push qL qN) ?_ | refine A_store rfl rfl 50 _ _ rfl inf50 rfl rfl rfl rfl (Nat.le_of_ble_eq_true rfl) qN qN ?_ | refine A_field rfl rfl 43 _ 0 rfl ud43 rfl inf4 (by decide) 0 rfl rfl ?_ | refine A_load rfl rfl 4 _ rfl ud4 rfl rfl rfl rfl ?_ | refine A_field rfl rfl 50 _ 2 rfl ud50 rfl inf48 (by decide) 2 rfl rfl ?_ | refine A_load rfl rfl 48 _ rfl ud48 rfl rfl rfl rfl ?_ | refine A_cmp (d := 30) rfl rfl (c := false) .eql 48 48 _ _ rfl rfl rfl (by exact congrArg some (decide_eq_false (by (try (dsimp only; fail_if_success done)); omega))) ?_ | refine A_bne rfl rfl 4 4 _ _ rfl ud4 rfl rfl ?_ | (refine kL 19 rfl ?_; refine A_pkf rfl rfl _ _ _ rfl rfl rfl ?_) | refine AL.nil ?_ | refine AL.skip rfl rfl ?_)) | with_reducible refine AW.at_region _ ?_ | (with_reducible (first | refine wk0 ?_ | refine wk1 ?_ | refine wk2 ?_ | refine wk5 ?_ | refine wkd ?_)) | refine kct rfl ?_ | refine kcf rfl ?_)
        all_goals first | (exfalso; omega) | (exfalso; simp_all; done) | skip
        refine ⟨q + 1, by omega, by omega, ?_⟩
        exact Wk.cq 1
      · have hc : rc = 14 := d1.1 rfl
        have hs : ra = sq := d2 rfl
        subst hc hs
        repeat' (first | ((with_reducible refine kAL ?_); (first | refine A_as rfl rfl rfl rfl ?_ | refine A_field rfl rfl 29 _ 3 rfl ud29 rfl inf27 (by decide) 3 rfl rfl ?_ | refine A_load rfl rfl 27 _ rfl ud27 rfl rfl rfl rfl ?_ | (refine kL 105 rfl ?_; (first | refine A_cmp (d := 17) rfl rfl (c := true) .lss 3 3 _ _ rfl rfl rfl (by exact congrArg some (decide_eq_true (by (try (dsimp only; fail_if_success done)); omega))) ?_ | refine A_cmp (d := 40) rfl rfl (c := false) .neq 3 3 _ _ rfl rfl rfl (by exact congrArg some (decide_eq_false (by (try (dsimp only; fail_if_success done)); omega))) ?_ | refine A_add rfl rfl 3 3 _ _ rfl rfl rfl (by exact wi) ?_)) | refine A_mt rfl rfl rfl rfl ?_ | (refine kL 838 rfl ?_; refine A_idx rfl rfl 26 _ _ rfl ud26 inf43 (by decide) (by exact .inl rfl) rfl (by omega) _ (by with_reducible exact Int.toNat_natCast _) (by exact map_get (by assumption)) rfl (cs' := [_, _, _, _]) rfl ?_) | refine A_load_lp_agg rfl rfl 43 _ rfl ud43 rfl inf43 rfl (us' := [_, _, _, _]) rfl rfl ?_ | refine A_alloc rfl rfl 43 rfl inf43 (cs := [.t (.v (.bool false)), .t (.v (.int .i64 0)), .t (.v (.int .i64 0)), AV.nl]) rfl (.push qL qN) ?_ | refine A_store rfl rfl 43 _ _ rfl inf43 rfl rfl rfl rfl (Nat.le_of_ble_eq_true rfl) qN qN ?_ | (refine kL 870 rfl ?_; refine A_idx rfl rfl 27 _ _ rfl ud27 inf50 (by decide) (by exact .inl rfl) rfl (by omega) _ (by with_reducible exact Int.toNat_natCast _) (by exact map_get (by assumption)) rfl (cs' := [_, _, _, _]) rfl ?_) | refine A_load_lp_agg rfl rfl 50 _ rfl ud50 rfl inf50 rfl (us' := [_, _, _, _]) rfl rfl ?_ | refine A_alloc rfl rfl 50 rfl inf50 (cs := [.t (.v (.int .i64 0)), .t (.v (.int .i64 0)), .t (.v (.int .i64 0)), .t (.v (.int .i64 0))]) rfl (.push qL qN) ?_ | refine A_store rfl rfl 50 _ _ rfl inf50 rfl rfl rfl rfl (Nat.le_of_ble_eq_true rfl) qN qN ?_ | (refine kL 1380 rfl ?_; (first | refine A_field rfl rfl 43 _ 0 rfl ud43 rfl inf4 (by decide) 0 rfl rfl ?_ | refine A_field rfl rfl 43 _ 2 rfl ud43 rfl inf3 (by decide) 2 rfl rfl ?_)) | refine A_load rfl rfl 4 _ rfl ud4 rfl rfl rfl rfl ?_ | (refine kL 1604 rfl ?_; (first | refine A_field rfl rfl 50 _ 2 rfl ud50 rfl inf48 (by decide) 2 rfl rfl ?_ | refine A_field rfl rfl 50 _ 0 rfl ud50 rfl inf3 (by decide) 0 rfl rfl ?_)) | refine A_load rfl rfl 48 _ rfl ud48 rfl rfl rfl rfl ?_ | refine A_cmp (d := 30) rfl rfl (c := true) .eql 48 48 _ _ rfl rfl rfl (by exact congrArg some (decide_eq_true (by (try (dsimp only; fail_if_success done)); omega))) ?_ | refine A_bne rfl rfl 4 4 _ _ rfl ud4 rfl rfl ?_ | refine A_load rfl rfl 3 _ rfl ud3 rfl rfl rfl rfl ?_ | (refine kL 19 rfl ?_; (first | refine A_pkt rfl rfl _ _ _ rfl rfl rfl ?_ | refine A_pkf rfl rfl _ _ _ rfl rfl rfl ?_)) | refine AL.nil ?_)) | with_reducible refine AW.at_region _ ?_ | (with_reducible (first | refine wk0 ?_ | refine wk1 ?_ | refine wk2 ?_ | refine wk5 ?_ | refine wkd ?_)) | refine kct rfl ?_ | refine kcf rfl ?_)
        all_goals first | (exfalso; omega) | (exfalso; simp_all; done) | skip
        refine ⟨q + 1, by omega, by omega, ?_⟩
        exact Wk.cq 1
    · repeat' (first | ((with_reducible refine kAL ?_); (first | refine A_as rfl rfl rfl rfl ?_ | refine A_cmp (d := 17) rfl rfl (c := false) .lss 3 3 _ _ rfl rfl rfl (by exact congrArg some (decide_eq_false (by (try (dsimp only; fail_if_success done)); omega))) ?_ | refine AL.nil ?_)) | with_reducible refine AW.at_region _ ?_ | (with_reducible (first | refine wk0 ?_ | refine wk2 ?_ | refine wk4 ?_ | refine wk7 ?_ | refine wk9 ?_ | refine wkb ?_ | refine wkc ?_)) | refine kcf rfl ?_)
      all_goals first | (exfalso; omega) | (exact Fin.q Try.results58 (.cons (.tmp rfl) .nil) [])
def couldH (h : DHall) (t : Int) (k : DCase) : Bool := (chA h (fndP h k.handle)).closed || (fir (cutW h.waits t) (3 - k.dir) k.handle).ok || (if k.dir = 1 then decide (((chA h (fndP h k.handle)).buf.length : Int) < (chA h (fndP h k.handle)).cap) else decide (0 < ((chA h (fndP h k.handle)).buf.length : Int)))
set_option maxHeartbeats 8000000 in
theorem could_c (h : DHall) (t : Int) (k : DCase) (hh : okHl h) (hf : fndOk h k.handle = true) (hd : k.dir = 1 ∨ k.dir = 2) : Cd Try.prog 90 [aHl h, i64 t, .agg [i64 k.dir, i64 k.handle, i64 k.value]] (bo (couldH h t k)) [] := by
  have h1 : (h.chans.map tCh).length = h.chans.length := List.length_map _
  have hm1 := hh.c
  have cF := find_c h k.handle (fnd_sI hf) hm1
  obtain ⟨n, c, e1, e2, hc, hu, hg, e3, e4, e5⟩ := fnd_yes hf
  have cX0 := wcut_c h.waits t hh.w
  have hcl : (cutW h.waits t).length = h.waits.length := cutW_len ..
  have cR := first_c (cutW h.waits t) (3 - k.dir) k.handle (okW_cut hh.w)
  unfold couldH
  rw [hf, e3] at cF
  rw [e3, e4]
  generalize cutW h.waits t = W at *
  have cX : Cd Try.prog 98 [.ln (h.waits.map tWt), i64 t] (.tup [.t (.lst (W.map tWt)), bo (cutOk h.waits t)]) [] := by have cX0' := Cd.frz cX0 0 rfl (by repeat' (first | exact FzL.nil | apply FzL.cons | exact FzR.nlt | exact FzR.all (by first | rfl | (simp <;> fail) | (simp; omega)) | exact FzR.sl (by first | exact Nat.le_refl _ | (simp <;> fail) | (simp; omega)) | apply FzR.aggL | exact FzR.same _)) rfl; exact Cd.drop cX0' rfl
  generalize fir W (3 - k.dir) k.handle = F at *
  generalize cutOk h.waits t = co at *
  obtain ⟨f1, f2, f3⟩ := F
  obtain ⟨c1, c2, c3, c4, cb⟩ := c
  obtain ⟨d, x, v⟩ := k
  have hb : (cb.map tI).length = cb.length := List.length_map _
  have hbb := hh.b _ (List.mem_of_getElem? hc)
  dsimp only at *
  by_cases hd1 : d = 1
  · subst hd1
    cases c4 <;> cases f3
    all_goals
      by_cases hlt : (cb.length : Int) < c2
      all_goals
        refine Cd.enter' Try.func90 rfl Try.ntmps90 rfl ?_
        repeat' (first | ((with_reducible refine kAL ?_); (first | refine A_box rfl rfl 29 _ rfl rfl (.push qL qN) ?_ | refine A_box rfl rfl 45 _ rfl rfl (.push qL qN) ?_ | refine A_as rfl rfl rfl rfl ?_ | refine A_load_agg rfl rfl 29 _ rfl ud29 rfl inf29 rfl rfl (us' := [_, _, _, _]) rfl rfl ?_ | (refine kL 1444 rfl ?_; (first | refine A_field rfl rfl 45 _ 1 rfl ud45 rfl inf3 (by decide) 1 rfl rfl ?_ | refine A_field rfl rfl 45 _ 0 rfl ud45 rfl inf3 (by decide) 0 rfl rfl ?_)) | refine A_load rfl rfl 3 _ rfl ud3 rfl rfl rfl rfl ?_ | (refine kL 618 rfl ?_; refine A_cl rfl rfl Try.func19 rfl (cF) ?_) | (refine kL 0 rfl ?_; (first | refine A_mt rfl rfl rfl rfl ?_ | refine A_move rfl rfl _ (.inl rfl) (y := .tup _) rfl ?_)) | (refine kL 18 rfl ?_; (first | refine A_extract rfl rfl _ 0 rfl rfl rfl ?_ | refine A_extract rfl rfl _ 1 rfl rfl rfl ?_ | refine A_extract rfl rfl _ 2 rfl rfl rfl ?_)) | refine A_not rfl rfl _ _ rfl rfl ?_ | (refine kL 932 rfl ?_; (first | refine A_field rfl rfl 29 _ 1 rfl ud29 rfl inf25 (by decide) 1 rfl rfl ?_ | refine A_field rfl rfl 29 _ 2 rfl ud29 rfl inf26 (by decide) 2 rfl rfl ?_)) | refine A_load rfl rfl 25 _ rfl ud25 rfl rfl rfl rfl ?_ | (refine kL 806 rfl ?_; refine A_idx rfl rfl 25 _ _ rfl ud25 inf66 (by decide) (by exact .inl rfl) rfl (by omega) _ (by with_reducible exact Int.toNat_natCast _) (by exact map_get (by assumption)) rfl (cs' := [_, _, _, _, _]) rfl ?_) | refine A_load_lp_agg rfl rfl 66 _ rfl ud66 rfl inf66 rfl (us' := [_, _, _, _, _]) rfl rfl ?_ | refine A_alloc rfl rfl 66 rfl inf66 (cs := [.t (.v (.int .i64 0)), .t (.v (.int .i64 0)), .t (.v (.bool false)), .t (.v (.bool false)), AV.nl]) rfl (.push qL qN) ?_ | refine A_store rfl rfl 66 _ _ rfl inf66 rfl rfl rfl rfl (Nat.le_of_ble_eq_true rfl) qN qN ?_ | refine A_load rfl rfl 26 _ rfl ud26 rfl rfl rfl rfl ?_ | (refine kL 3146 rfl ?_; refine A_cl rfl rfl Try.func98 rfl (cX) ?_) | (refine kL 105 rfl ?_; (first | refine A_sub rfl rfl 3 3 _ _ rfl rfl rfl (by first | exact wi | rfl) ?_ | refine A_cmp (d := 54) rfl rfl (c := true) .eql 3 3 _ _ rfl rfl rfl (by exact congrArg some (decide_eq_true (by (try (dsimp only; fail_if_success done)); omega))) ?_ | refine A_cmp (d := 60) rfl rfl (c := true) .lss 3 3 _ _ rfl rfl rfl (by exact congrArg some (decide_eq_true (by (try (dsimp only; fail_if_success done)); omega))) ?_ | refine A_cmp (d := 60) rfl rfl (c := false) .lss 3 3 _ _ rfl rfl rfl (by exact congrArg some (decide_eq_false (by (try (dsimp only; fail_if_success done)); omega))) ?_)) | (refine kL 3562 rfl ?_; refine A_cl rfl rfl Try.func111 rfl (cR) ?_) | (refine kL 2116 rfl ?_; (first | refine A_field rfl rfl 66 _ 3 rfl ud66 rfl inf4 (by decide) 3 rfl rfl ?_ | refine A_field rfl rfl 66 _ 4 rfl ud66 rfl inf22 (by decide) 4 rfl rfl ?_ | refine A_field rfl rfl 66 _ 1 rfl ud66 rfl inf3 (by decide) 1 rfl rfl ?_)) | refine A_load rfl rfl 4 _ rfl ud4 rfl rfl rfl rfl ?_ | (refine kL 19 rfl ?_; (first | refine A_pkt rfl rfl _ _ _ rfl rfl rfl ?_ | refine A_pkf rfl rfl _ _ _ rfl rfl rfl ?_)) | refine A_load rfl rfl 22 _ rfl ud22 rfl rfl rfl rfl ?_ | refine A_len rfl rfl 22 _ rfl ud22 rfl ?_ | refine AL.nil ?_ | refine AL.skip rfl rfl ?_)) | with_reducible refine AW.at_region _ ?_ | (with_reducible (first | refine wk0 ?_ | refine wk2 ?_ | refine wk3 ?_ | refine wk9 ?_ | refine wkb ?_ | refine wkd ?_)) | refine kct rfl ?_ | refine kcf rfl ?_)
        all_goals first | (exfalso; omega) | ((first | exact Fin.q Try.results90 (.cons (.tmp rfl) .nil) [] | refine Fin.q Try.results90 (.cons (.tmp rfl) .nil) [] (hr := (.t ?_))))
        all_goals first | (simp [hlt]; done) | (rw [if_neg (by decide), decide_eq_true hlt]; rfl) | (rw [if_neg (by decide), decide_eq_false hlt]; rfl) | (rw [if_pos rfl, decide_eq_true hlt]; rfl) | (rw [if_pos rfl, decide_eq_false hlt]; rfl) | skip
  · have hd2 : d = 2 := by omega
    subst hd2
    cases c4 <;> cases f3
    all_goals
      by_cases hlt : 0 < (cb.length : Int)
      all_goals
        refine Cd.enter' Try.func90 rfl Try.ntmps90 rfl ?_
        repeat' (first | ((with_reducible refine kAL ?_); (first | refine A_box rfl rfl 29 _ rfl rfl (.push qL qN) ?_ | refine A_box rfl rfl 45 _ rfl rfl (.push qL qN) ?_ | refine A_as rfl rfl rfl rfl ?_ | refine A_load_agg rfl rfl 29 _ rfl ud29 rfl inf29 rfl rfl (us' := [_, _, _, _]) rfl rfl ?_ | (refine kL 1444 rfl ?_; (first | refine A_field rfl rfl 45 _ 1 rfl ud45 rfl inf3 (by decide) 1 rfl rfl ?_ | refine A_field rfl rfl 45 _ 0 rfl ud45 rfl inf3 (by decide) 0 rfl rfl ?_)) | refine A_load rfl rfl 3 _ rfl ud3 rfl rfl rfl rfl ?_ | (refine kL 618 rfl ?_; refine A_cl rfl rfl Try.func19 rfl (cF) ?_) | (refine kL 0 rfl ?_; (first | refine A_mt rfl rfl rfl rfl ?_ | refine A_move rfl rfl _ (.inl rfl) (y := .tup _) rfl ?_)) | (refine kL 18 rfl ?_; (first | refine A_extract rfl rfl _ 0 rfl rfl rfl ?_ | refine A_extract rfl rfl _ 1 rfl rfl rfl ?_ | refine A_extract rfl rfl _ 2 rfl rfl rfl ?_)) | refine A_not rfl rfl _ _ rfl rfl ?_ | (refine kL 932 rfl ?_; (first | refine A_field rfl rfl 29 _ 1 rfl ud29 rfl inf25 (by decide) 1 rfl rfl ?_ | refine A_field rfl rfl 29 _ 2 rfl ud29 rfl inf26 (by decide) 2 rfl rfl ?_)) | refine A_load rfl rfl 25 _ rfl ud25 rfl rfl rfl rfl ?_ | (refine kL 806 rfl ?_; refine A_idx rfl rfl 25 _ _ rfl ud25 inf66 (by decide) (by exact .inl rfl) rfl (by omega) _ (by with_reducible exact Int.toNat_natCast _) (by exact map_get (by assumption)) rfl (cs' := [_, _, _, _, _]) rfl ?_) | refine A_load_lp_agg rfl rfl 66 _ rfl ud66 rfl inf66 rfl (us' := [_, _, _, _, _]) rfl rfl ?_ | refine A_alloc rfl rfl 66 rfl inf66 (cs := [.t (.v (.int .i64 0)), .t (.v (.int .i64 0)), .t (.v (.bool false)), .t (.v (.bool false)), AV.nl]) rfl (.push qL qN) ?_ | refine A_store rfl rfl 66 _ _ rfl inf66 rfl rfl rfl rfl (Nat.le_of_ble_eq_true rfl) qN qN ?_ | refine A_load rfl rfl 26 _ rfl ud26 rfl rfl rfl rfl ?_ | (refine kL 3146 rfl ?_; refine A_cl rfl rfl Try.func98 rfl (cX) ?_) | (refine kL 105 rfl ?_; (first | refine A_sub rfl rfl 3 3 _ _ rfl rfl rfl (by first | exact wi | rfl) ?_ | refine A_cmp (d := 54) rfl rfl (c := false) .eql 3 3 _ _ rfl rfl rfl (by exact congrArg some (decide_eq_false (by (try (dsimp only; fail_if_success done)); omega))) ?_ | refine A_cmp (d := 64) rfl rfl (c := true) .gtr 3 3 _ _ rfl rfl rfl (by exact congrArg some (decide_eq_true (by (try (dsimp only; fail_if_success done)); omega))) ?_ | refine A_cmp (d := 64) rfl rfl (c := false) .gtr 3 3 _ _ rfl rfl rfl (by exact congrArg some (decide_eq_false (by (try (dsimp only; fail_if_success done)); omega))) ?_)) | (refine kL 3562 rfl ?_; refine A_cl rfl rfl Try.func111 rfl (cR) ?_) | (refine kL 2116 rfl ?_; (first | refine A_field rfl rfl 66 _ 3 rfl ud66 rfl inf4 (by decide) 3 rfl rfl ?_ | refine A_field rfl rfl 66 _ 4 rfl ud66 rfl inf22 (by decide) 4 rfl rfl ?_)) | refine A_load rfl rfl 4 _ rfl ud4 rfl rfl rfl rfl ?_ | (refine kL 19 rfl ?_; (first | refine A_pkt rfl rfl _ _ _ rfl rfl rfl ?_ | refine A_pkf rfl rfl _ _ _ rfl rfl rfl ?_)) | refine A_load rfl rfl 22 _ rfl ud22 rfl rfl rfl rfl ?_ | refine A_len rfl rfl 22 _ rfl ud22 rfl ?_ | refine AL.nil ?_ | refine AL.skip rfl rfl ?_)) | with_reducible refine AW.at_region _ ?_ | (with_reducible (first | refine wk0 ?_ | refine wk2 ?_ | refine wk3 ?_ | refine wk9 ?_ | refine wkb ?_ | refine wkd ?_)) | refine kct rfl ?_ | refine kcf rfl ?_)
        all_goals first | (exfalso; omega) | ((first | exact Fin.q Try.results90 (.cons (.tmp rfl) .nil) [] | refine Fin.q Try.results90 (.cons (.tmp rfl) .nil) [] (hr := (.t ?_))))
        all_goals first | (simp [hlt]; done) | (rw [if_neg (by decide), decide_eq_true hlt]; rfl) | (rw [if_neg (by decide), decide_eq_false hlt]; rfl) | (rw [if_pos rfl, decide_eq_true hlt]; rfl) | (rw [if_pos rfl, decide_eq_false hlt]; rfl) | skip
theorem ready1_c (h : DHall) (t : Int) (k : DCase) (hh : okHl h) (hf : fndOk h k.handle = true) (hd : k.dir = 1 ∨ k.dir = 2) : Cd Try.prog 89 [.agg ((tCs k).map .t), .lp [i64 h.ticket, .ln (h.chans.map tCh), .ln (h.waits.map tWt), .ln (h.done.map tR)], .lp [i64 t]] (bo (couldH h t k)) [] := by
  have cC := could_c h t k hh hf hd
  generalize couldH h t k = b at *
  obtain ⟨d, x, v⟩ := k
  dsimp only at cC
  refine Cd.enter' Try.func89 rfl Try.ntmps89 rfl ?_
  repeat' (first | ((with_reducible refine kAL ?_); (first | refine A_box rfl rfl 45 _ rfl rfl (.push qL qN) ?_ | refine A_as rfl rfl rfl rfl ?_ | refine A_load_lp_agg rfl rfl 29 _ rfl ud29 rfl inf29 rfl (us' := [_, _, _, _]) rfl rfl ?_ | refine A_load_lp rfl rfl 3 _ rfl ud3 rfl rfl rfl ?_ | refine A_load_agg rfl rfl 45 _ rfl ud45 rfl inf45 rfl rfl (us' := [_, _, _]) rfl rfl ?_ | (refine kL 2890 rfl ?_; refine A_cl rfl rfl Try.func90 rfl (cC) ?_) | refine AL.nil ?_)) | with_reducible refine AW.at_region _ ?_ | (with_reducible (first | refine wk0 ?_ | refine wk2 ?_ | refine wk9 ?_ | refine wkb ?_)))
  all_goals first | (exfalso; omega) | (exact Fin.q Try.results89 (.cons (.tmp rfl) .nil) [])
theorem readyF_c (h : DHall) (t : Int) (cs : List DCase) (hh : okHl h) (hf : ∀ k ∈ cs, fndOk h k.handle = true) (hd : ∀ k ∈ cs, k.dir = 1 ∨ k.dir = 2) (hl : cs.length ≤ 5864062014805) : Cd Try.prog 82 [.ln (cs.map tCs), .fn (.func 89) [] [.lp [i64 h.ticket, .ln (h.chans.map tCh), .ln (h.waits.map tWt), .ln (h.done.map tR)], .lp [i64 t]]] (bo (decide (0 ≤ ixF (couldH h t) cs))) [] := by
  rw [ixF_any]
  exact conFK_c 89 [] [.lp [i64 h.ticket, .ln (h.chans.map tCh), .ln (h.waits.map tWt), .ln (h.done.map tR)], .lp [i64 t]] (couldH h t) cs (fun c hc => ⟨_, _, [], [.lp [i64 h.ticket, .ln (h.chans.map tCh), .ln (h.waits.map tWt), .ln (h.done.map tR)], .lp [i64 t]], rfl, Try.func89, by kernel_rfl, by kernel_rfl, fun _ => .nil, fun _ => .cons (.lpL (.cons (.t _) (.cons (.ln _) (.cons (.ln _) (.cons (.ln _) .nil))))) (.cons (.lpL (.cons (.t _) .nil)) .nil), ready1_c h t c hh (hf c hc) (hd c hc)⟩) rfl (fun _ _ => .fnL .nil (.cons (.lpL (.cons (.t _) (.cons (.ln _) (.cons (.ln _) (.cons (.ln _) .nil))))) (.cons (.lpL (.cons (.t _) .nil)) .nil))) (by omega)
set_option maxHeartbeats 8000000 in
theorem snReady_c (h : DHall) (hh : okHl h) (hd : ∀ w ∈ h.waits, ∀ k ∈ w.cases, fndOk h k.handle = true) (dr : ∀ w ∈ h.waits, ∀ k ∈ w.cases, k.dir = 1 ∨ k.dir = 2)
    (no : ∀ (t : Nat) w, h.waits[t]? = some w → w.on = true → ixF (couldH h t) w.cases < 0) : Cd Try.prog 59 [aHl h] (bo true) [] := by
  have h1 : (h.waits.map tWt).length = h.waits.length := List.length_map _
  have hw0 := hh.w.1
  refine Cd.enter' Try.func59 rfl Try.ntmps59 rfl ?_
  repeat' (first | ((with_reducible refine kAL ?_); (first | refine A_box rfl rfl 29 _ rfl rfl (.push qL qN) ?_ | refine A_as rfl rfl rfl rfl ?_ | refine A_field rfl rfl 29 _ 2 rfl ud29 rfl inf26 (by decide) 2 rfl rfl ?_ | refine A_load rfl rfl 26 _ rfl ud26 rfl rfl rfl rfl ?_ | refine A_len rfl rfl 26 _ rfl ud26 rfl ?_ | refine A_mt rfl rfl rfl rfl ?_ | refine AL.nil ?_)) | with_reducible refine AW.at_region _ ?_ | (with_reducible (first | refine wk0 ?_ | refine wk1 ?_ | refine wk2 ?_)))
  all_goals first | (exfalso; omega) | skip
  refine AW.loopP (fun (q : Nat) => q ≤ h.waits.length) (fun (q : Nat) => (pu (pu (pu (pu (fun _ => .any) 1 (.ptr 0 0)) 6 (.ln (h.waits.map tWt))) 7 (i64 (h.waits.map tWt).length)) 8 (i64 q))) (fun (q : Nat) => [.box 29 [i64 h.ticket, .ln (h.chans.map tCh), .ln (h.waits.map tWt), .ln (h.done.map tR)]]) (fun (q : Nat) => h.waits.length - q) (0) ?_ ?_ ?_
  · exact Nat.zero_le _
  · exact Wk.cq 1
  · intro q hq
    by_cases hi : q < h.waits.length
    · obtain ⟨w, hx⟩ : ∃ x, h.waits[q]? = some x := ⟨_, List.getElem?_eq_getElem hi⟩
      have hm := List.mem_of_getElem? hx
      have cC := readyF_c h q w.cases hh (hd w hm) (dr w hm) (hh.w.at hx)
      have hno := no q w hx
      obtain ⟨on, t, sq, cs⟩ := w
      dsimp only at cC hno
      cases on
      · clear cC
        repeat' (first | ((with_reducible refine kAL ?_); (first | refine A_mt rfl rfl rfl rfl ?_ | (refine kL 105 rfl ?_; (first | refine A_cmp (d := 9) rfl rfl (c := true) .lss 3 3 _ _ rfl rfl rfl (by exact congrArg some (decide_eq_true (by (try (dsimp only; fail_if_success done)); omega))) ?_ | refine A_add rfl rfl 3 3 _ _ rfl rfl rfl (by exact wi) ?_)) | (refine kL 838 rfl ?_; refine A_idx rfl rfl 26 _ _ rfl ud26 inf43 (by decide) (by exact .inl rfl) rfl (by omega) _ (by with_reducible exact Int.toNat_natCast _) (by exact map_get (by assumption)) rfl (cs' := [_, _, _, _]) rfl ?_) | refine A_load_lp_agg rfl rfl 43 _ rfl ud43 rfl inf43 rfl (us' := [_, _, _, _]) rfl rfl ?_ | refine A_alloc rfl rfl 3 rfl inf3 (cs := [.t (.v (.int .i64 0))]) rfl (.push qL qN) ?_ | refine A_alloc rfl rfl 43 rfl inf43 (cs := [.t (.v (.bool false)), .t (.v (.int .i64 0)), .t (.v (.int .i64 0)), AV.nl]) rfl (.push qL qN) ?_ | refine A_store rfl rfl 3 _ _ rfl inf3 rfl rfl rfl rfl (Nat.le_of_ble_eq_true rfl) qN qN ?_ | refine A_store rfl rfl 43 _ _ rfl inf43 rfl rfl rfl rfl (Nat.le_of_ble_eq_true rfl) qN qN ?_ | refine A_field rfl rfl 43 _ 0 rfl ud43 rfl inf4 (by decide) 0 rfl rfl ?_ | refine A_load rfl rfl 4 _ rfl ud4 rfl rfl rfl rfl ?_ | (refine kL 19 rfl ?_; refine A_pkf rfl rfl _ _ _ rfl rfl rfl ?_) | refine AL.nil ?_ | refine AL.skip rfl rfl ?_)) | with_reducible refine AW.at_region _ ?_ | (with_reducible (first | refine wk0 ?_ | refine wk1 ?_ | refine wk2 ?_ | refine wk5 ?_ | refine wkd ?_)) | refine kct rfl ?_ | refine kcf rfl ?_)
        all_goals first | (exfalso; omega) | skip
        refine ⟨q + 1, by omega, by omega, ?_⟩
        exact Wk.cq 1
      · have := hno rfl
        rw [decide_eq_false (by omega)] at cC
        repeat' (first | ((with_reducible refine kAL ?_); (first | refine A_mt rfl rfl rfl rfl ?_ | (refine kL 105 rfl ?_; (first | refine A_cmp (d := 9) rfl rfl (c := true) .lss 3 3 _ _ rfl rfl rfl (by exact congrArg some (decide_eq_true (by (try (dsimp only; fail_if_success done)); omega))) ?_ | refine A_add rfl rfl 3 3 _ _ rfl rfl rfl (by exact wi) ?_)) | (refine kL 838 rfl ?_; refine A_idx rfl rfl 26 _ _ rfl ud26 inf43 (by decide) (by exact .inl rfl) rfl (by omega) _ (by with_reducible exact Int.toNat_natCast _) (by exact map_get (by assumption)) rfl (cs' := [_, _, _, _]) rfl ?_) | refine A_load_lp_agg rfl rfl 43 _ rfl ud43 rfl inf43 rfl (us' := [_, _, _, _]) rfl rfl ?_ | refine A_alloc rfl rfl 3 rfl inf3 (cs := [.t (.v (.int .i64 0))]) rfl (.push qL qN) ?_ | refine A_alloc rfl rfl 43 rfl inf43 (cs := [.t (.v (.bool false)), .t (.v (.int .i64 0)), .t (.v (.int .i64 0)), AV.nl]) rfl (.push qL qN) ?_ | refine A_store rfl rfl 3 _ _ rfl inf3 rfl rfl rfl rfl (Nat.le_of_ble_eq_true rfl) qN qN ?_ | refine A_store rfl rfl 43 _ _ rfl inf43 rfl rfl rfl rfl (Nat.le_of_ble_eq_true rfl) qN qN ?_ | (refine kL 1380 rfl ?_; (first | refine A_field rfl rfl 43 _ 0 rfl ud43 rfl inf4 (by decide) 0 rfl rfl ?_ | refine A_field rfl rfl 43 _ 3 rfl ud43 rfl inf30 (by decide) 3 rfl rfl ?_)) | refine A_load rfl rfl 4 _ rfl ud4 rfl rfl rfl rfl ?_ | refine A_load rfl rfl 30 _ rfl ud30 rfl rfl rfl rfl ?_ | (refine kL 21 rfl ?_; refine A_fn rfl rfl _ _ _ rfl .nil (.cons rfl (.cons rfl .nil)) ?_) | (refine kL 2634 rfl ?_; refine A_cl rfl rfl Try.func82 rfl (cC) ?_) | (refine kL 19 rfl ?_; refine A_pkt rfl rfl _ _ _ rfl rfl rfl ?_) | refine AL.nil ?_)) | with_reducible refine AW.at_region _ ?_ | (with_reducible (first | refine wk0 ?_ | refine wk1 ?_ | refine wk2 ?_ | refine wk5 ?_ | refine wkd ?_)) | refine kct rfl ?_ | refine kcf rfl ?_)
        all_goals first | (exfalso; omega) | skip
        refine ⟨q + 1, by omega, by omega, ?_⟩
        exact Wk.cq 1
    · repeat' (first | ((with_reducible refine kAL ?_); (first | refine A_as rfl rfl rfl rfl ?_ | refine A_cmp (d := 9) rfl rfl (c := false) .lss 3 3 _ _ rfl rfl rfl (by exact congrArg some (decide_eq_false (by (try (dsimp only; fail_if_success done)); omega))) ?_ | refine AL.nil ?_)) | with_reducible refine AW.at_region _ ?_ | (with_reducible (first | refine wk0 ?_ | refine wk2 ?_ | refine wk4 ?_ | refine wk7 ?_ | refine wk9 ?_ | refine wkb ?_ | refine wkc ?_)) | refine kcf rfl ?_)
      all_goals first | (exfalso; omega) | (exact Fin.q Try.results59 (.cons (.tmp rfl) .nil) [])
theorem snReadyN_c (h : DHall) (hh : okHl h) {w : DWait} (hx : h.waits[0]? = some w) (ho : w.on = true) (hd : ∀ k ∈ w.cases, fndOk h k.handle = true) (dr : ∀ k ∈ w.cases, k.dir = 1 ∨ k.dir = 2) (yes : 0 ≤ ixF (couldH h 0) w.cases) : Cd Try.prog 59 [aHl h] (bo false) [] := by
  have h1 : (h.waits.map tWt).length = h.waits.length := List.length_map _
  have hw0 := hh.w.1
  have hi := get_lt hx
  have cC := readyF_c h 0 w.cases hh hd dr (hh.w.at hx)
  rw [decide_eq_true yes] at cC
  obtain ⟨on, t, sq, cs⟩ := w
  dsimp only at cC ho
  subst ho
  refine Cd.enter' Try.func59 rfl Try.ntmps59 rfl ?_
  repeat' (first | ((with_reducible refine kAL ?_); (first | refine A_box rfl rfl 29 _ rfl rfl (.push qL qN) ?_ | refine A_as rfl rfl rfl rfl ?_ | refine A_field rfl rfl 29 _ 2 rfl ud29 rfl inf26 (by decide) 2 rfl rfl ?_ | refine A_load rfl rfl 26 _ rfl ud26 rfl rfl rfl rfl ?_ | refine A_len rfl rfl 26 _ rfl ud26 rfl ?_ | refine A_mt rfl rfl rfl rfl ?_ | refine AL.nil ?_)) | with_reducible refine AW.at_region _ ?_ | (with_reducible (first | refine wk0 ?_ | refine wk1 ?_ | refine wk2 ?_)))
  all_goals first | (exfalso; omega) | skip
  refine AW.loopP (fun (q : Nat) => q = 0) (fun (q : Nat) => (pu (pu (pu (pu (fun _ => .any) 1 (.ptr 0 0)) 6 (.ln (h.waits.map tWt))) 7 (i64 (h.waits.map tWt).length)) 8 (i64 q))) (fun (q : Nat) => [.box 29 [i64 h.ticket, .ln (h.chans.map tCh), .ln (h.waits.map tWt), .ln (h.done.map tR)]]) (fun (q : Nat) => 0) (0) ?_ ?_ ?_
  · rfl
  · exact Wk.cq 1
  · rintro q rfl
    repeat' (first | ((with_reducible refine kAL ?_); (first | refine A_as rfl rfl rfl rfl ?_ | refine A_mt rfl rfl rfl rfl ?_ | refine A_cmp (d := 9) rfl rfl (c := true) .lss 3 3 _ _ rfl rfl rfl (by exact congrArg some (decide_eq_true (by (try (dsimp only; fail_if_success done)); omega))) ?_ | (refine kL 838 rfl ?_; refine A_idx rfl rfl 26 _ _ rfl ud26 inf43 (by decide) (by exact .inl rfl) rfl (by omega) _ (by with_reducible exact Int.toNat_natCast _) (by exact map_get (by assumption)) rfl (cs' := [_, _, _, _]) rfl ?_) | refine A_load_lp_agg rfl rfl 43 _ rfl ud43 rfl inf43 rfl (us' := [_, _, _, _]) rfl rfl ?_ | refine A_alloc rfl rfl 3 rfl inf3 (cs := [.t (.v (.int .i64 0))]) rfl (.push qL qN) ?_ | refine A_alloc rfl rfl 43 rfl inf43 (cs := [.t (.v (.bool false)), .t (.v (.int .i64 0)), .t (.v (.int .i64 0)), AV.nl]) rfl (.push qL qN) ?_ | refine A_store rfl rfl 3 _ _ rfl inf3 rfl rfl rfl rfl (Nat.le_of_ble_eq_true rfl) qN qN ?_ | refine A_store rfl rfl 43 _ _ rfl inf43 rfl rfl rfl rfl (Nat.le_of_ble_eq_true rfl) qN qN ?_ | (refine kL 1380 rfl ?_; (first | refine A_field rfl rfl 43 _ 0 rfl ud43 rfl inf4 (by decide) 0 rfl rfl ?_ | refine A_field rfl rfl 43 _ 3 rfl ud43 rfl inf30 (by decide) 3 rfl rfl ?_)) | refine A_load rfl rfl 4 _ rfl ud4 rfl rfl rfl rfl ?_ | refine A_load rfl rfl 30 _ rfl ud30 rfl rfl rfl rfl ?_ | (refine kL 21 rfl ?_; refine A_fn rfl rfl _ _ _ rfl .nil (.cons rfl (.cons rfl .nil)) ?_) | (refine kL 2634 rfl ?_; refine A_cl rfl rfl Try.func82 rfl (cC) ?_) | (refine kL 19 rfl ?_; refine A_pkt rfl rfl _ _ _ rfl rfl rfl ?_) | refine AL.nil ?_)) | with_reducible refine AW.at_region _ ?_ | (with_reducible (first | refine wk0 ?_ | refine wk1 ?_ | refine wk2 ?_ | refine wk3 ?_ | refine wk6 ?_ | refine wk9 ?_ | refine wkb ?_ | refine wkd ?_)) | refine kct rfl ?_)
    all_goals first | (exfalso; omega) | (exact Fin.q Try.results59 (.cons (.tmp rfl) .nil) [])
set_option maxHeartbeats 8000000 in
theorem snOver_c (h : DHall) (hh : okHl h) (ov : ∀ x ∈ h.chans, (x.buf.length : Int) ≤ x.cap ∧ (x.used = false → x.closed = false ∧ x.cap = 0) ∧ 0 ≤ x.gen ∧ (x.used = true → x.gen ≠ 0)) : Cd Try.prog 60 [aHl h] (bo true) [] := by
  have h1 : (h.chans.map tCh).length = h.chans.length := List.length_map _
  have hc0 := hh.c
  refine Cd.enter' Try.func60 rfl Try.ntmps60 rfl ?_
  repeat' (first | ((with_reducible refine kAL ?_); (first | refine A_box rfl rfl 29 _ rfl rfl (.push qL qN) ?_ | refine A_as rfl rfl rfl rfl ?_ | refine A_field rfl rfl 29 _ 1 rfl ud29 rfl inf25 (by decide) 1 rfl rfl ?_ | refine A_load rfl rfl 25 _ rfl ud25 rfl rfl rfl rfl ?_ | refine A_len rfl rfl 25 _ rfl ud25 rfl ?_ | refine A_mt rfl rfl rfl rfl ?_ | refine AL.nil ?_)) | with_reducible refine AW.at_region _ ?_ | (with_reducible (first | refine wk0 ?_ | refine wk1 ?_ | refine wk2 ?_)))
  all_goals first | (exfalso; omega) | skip
  refine AW.loopP (fun (q : Nat) => q ≤ h.chans.length) (fun (q : Nat) => (pu (pu (pu (pu (fun _ => .any) 1 (.ptr 0 0)) 6 (.ln (h.chans.map tCh))) 7 (i64 (h.chans.map tCh).length)) 8 (i64 q))) (fun (q : Nat) => [.box 29 [i64 h.ticket, .ln (h.chans.map tCh), .ln (h.waits.map tWt), .ln (h.done.map tR)]]) (fun (q : Nat) => h.chans.length - q) (0) ?_ ?_ ?_
  · exact Nat.zero_le _
  · exact Wk.cq 1
  · intro q hq
    by_cases hi : q < h.chans.length
    · obtain ⟨x, hx⟩ : ∃ x, h.chans[q]? = some x := ⟨_, List.getElem?_eq_getElem hi⟩
      obtain ⟨o1, o2, o3, o4⟩ := ov x (List.mem_of_getElem? hx)
      obtain ⟨g, cap, used, closed, buf⟩ := x
      dsimp only at o1 o2 o3 o4
      have hb : (buf.map tI).length = buf.length := List.length_map _
      cases used
      · obtain ⟨rfl, rfl⟩ := o2 rfl
        repeat' (first | ((with_reducible refine kAL ?_); (first | refine A_len rfl rfl 22 _ rfl ud22 rfl ?_ | refine A_mt rfl rfl rfl rfl ?_ | (refine kL 105 rfl ?_; (first | refine A_cmp (d := 9) rfl rfl (c := true) .lss 3 3 _ _ rfl rfl rfl (by exact congrArg some (decide_eq_true (by (try (dsimp only; fail_if_success done)); omega))) ?_ | refine A_cmp (d := 17) rfl rfl (c := false) .gtr 3 3 _ _ rfl rfl rfl (by exact congrArg some (decide_eq_false (by (try (dsimp only; fail_if_success done)); omega))) ?_ | refine A_cmp (d := 28) rfl rfl (c := false) .neq 3 3 _ _ rfl rfl rfl (by exact congrArg some (decide_eq_false (by (try (dsimp only; fail_if_success done)); omega))) ?_ | refine A_cmp (d := 35) rfl rfl (c := false) .lss 3 3 _ _ rfl rfl rfl (by exact congrArg some (decide_eq_false (by (try (dsimp only; fail_if_success done)); omega))) ?_ | refine A_add rfl rfl 3 3 _ _ rfl rfl rfl (by first | exact wi | rfl) ?_)) | (refine kL 806 rfl ?_; refine A_idx rfl rfl 25 _ _ rfl ud25 inf66 (by decide) (by exact .inl rfl) rfl (by omega) _ (by with_reducible exact Int.toNat_natCast _) (by exact map_get (by assumption)) rfl (cs' := [_, _, _, _, _]) rfl ?_) | refine A_load_lp_agg rfl rfl 66 _ rfl ud66 rfl inf66 rfl (us' := [_, _, _, _, _]) rfl rfl ?_ | refine A_alloc rfl rfl 66 rfl inf66 (cs := [.t (.v (.int .i64 0)), .t (.v (.int .i64 0)), .t (.v (.bool false)), .t (.v (.bool false)), AV.nl]) rfl (.push qL qN) ?_ | refine A_store rfl rfl 66 _ _ rfl inf66 rfl rfl rfl rfl (Nat.le_of_ble_eq_true rfl) qN qN ?_ | (refine kL 2116 rfl ?_; (first | refine A_field rfl rfl 66 _ 4 rfl ud66 rfl inf22 (by decide) 4 rfl rfl ?_ | refine A_field rfl rfl 66 _ 1 rfl ud66 rfl inf3 (by decide) 1 rfl rfl ?_ | refine A_field rfl rfl 66 _ 2 rfl ud66 rfl inf4 (by decide) 2 rfl rfl ?_ | refine A_field rfl rfl 66 _ 3 rfl ud66 rfl inf4 (by decide) 3 rfl rfl ?_ | refine A_field rfl rfl 66 _ 0 rfl ud66 rfl inf3 (by decide) 0 rfl rfl ?_)) | refine A_load rfl rfl 22 _ rfl ud22 rfl rfl rfl rfl ?_ | refine A_load rfl rfl 3 _ rfl ud3 rfl rfl rfl rfl ?_ | refine A_load rfl rfl 4 _ rfl ud4 rfl rfl rfl rfl ?_ | refine A_not rfl rfl _ _ rfl rfl ?_ | (refine kL 19 rfl ?_; (first | refine A_pkt rfl rfl _ _ _ rfl rfl rfl ?_ | refine A_pkf rfl rfl _ _ _ rfl rfl rfl ?_)) | refine AL.nil ?_ | refine AL.skip rfl rfl ?_)) | with_reducible refine AW.at_region _ ?_ | (with_reducible (first | refine wk0 ?_ | refine wk1 ?_ | refine wk2 ?_ | refine wk5 ?_ | refine wkd ?_)) | refine kct rfl ?_ | refine kcf rfl ?_)
        all_goals first | (exfalso; omega) | skip
        refine ⟨q + 1, by omega, by omega, ?_⟩
        exact Wk.cq 1
      · have := o4 rfl
        clear o2 o4
        repeat' (first | ((with_reducible refine kAL ?_); (first | refine A_len rfl rfl 22 _ rfl ud22 rfl ?_ | refine A_mt rfl rfl rfl rfl ?_ | (refine kL 105 rfl ?_; (first | refine A_cmp (d := 9) rfl rfl (c := true) .lss 3 3 _ _ rfl rfl rfl (by exact congrArg some (decide_eq_true (by (try (dsimp only; fail_if_success done)); omega))) ?_ | refine A_cmp (d := 17) rfl rfl (c := false) .gtr 3 3 _ _ rfl rfl rfl (by exact congrArg some (decide_eq_false (by (try (dsimp only; fail_if_success done)); omega))) ?_ | refine A_cmp (d := 35) rfl rfl (c := false) .lss 3 3 _ _ rfl rfl rfl (by exact congrArg some (decide_eq_false (by (try (dsimp only; fail_if_success done)); omega))) ?_ | refine A_cmp (d := 43) rfl rfl (c := false) .eql 3 3 _ _ rfl rfl rfl (by exact congrArg some (decide_eq_false (by (try (dsimp only; fail_if_success done)); omega))) ?_ | refine A_add rfl rfl 3 3 _ _ rfl rfl rfl (by first | exact wi | rfl) ?_)) | (refine kL 806 rfl ?_; refine A_idx rfl rfl 25 _ _ rfl ud25 inf66 (by decide) (by exact .inl rfl) rfl (by omega) _ (by with_reducible exact Int.toNat_natCast _) (by exact map_get (by assumption)) rfl (cs' := [_, _, _, _, _]) rfl ?_) | refine A_load_lp_agg rfl rfl 66 _ rfl ud66 rfl inf66 rfl (us' := [_, _, _, _, _]) rfl rfl ?_ | refine A_alloc rfl rfl 66 rfl inf66 (cs := [.t (.v (.int .i64 0)), .t (.v (.int .i64 0)), .t (.v (.bool false)), .t (.v (.bool false)), AV.nl]) rfl (.push qL qN) ?_ | refine A_store rfl rfl 66 _ _ rfl inf66 rfl rfl rfl rfl (Nat.le_of_ble_eq_true rfl) qN qN ?_ | (refine kL 2116 rfl ?_; (first | refine A_field rfl rfl 66 _ 4 rfl ud66 rfl inf22 (by decide) 4 rfl rfl ?_ | refine A_field rfl rfl 66 _ 1 rfl ud66 rfl inf3 (by decide) 1 rfl rfl ?_ | refine A_field rfl rfl 66 _ 2 rfl ud66 rfl inf4 (by decide) 2 rfl rfl ?_ | refine A_field rfl rfl 66 _ 0 rfl ud66 rfl inf3 (by decide) 0 rfl rfl ?_)) | refine A_load rfl rfl 22 _ rfl ud22 rfl rfl rfl rfl ?_ | refine A_load rfl rfl 3 _ rfl ud3 rfl rfl rfl rfl ?_ | refine A_load rfl rfl 4 _ rfl ud4 rfl rfl rfl rfl ?_ | refine A_not rfl rfl _ _ rfl rfl ?_ | (refine kL 19 rfl ?_; (first | refine A_pkt rfl rfl _ _ _ rfl rfl rfl ?_ | refine A_pkf rfl rfl _ _ _ rfl rfl rfl ?_)) | refine AL.nil ?_ | refine AL.skip rfl rfl ?_)) | with_reducible refine AW.at_region _ ?_ | (with_reducible (first | refine wk0 ?_ | refine wk1 ?_ | refine wk2 ?_ | refine wk5 ?_ | refine wkd ?_)) | refine kct rfl ?_ | refine kcf rfl ?_)
        all_goals first | (exfalso; omega) | skip
        refine ⟨q + 1, by omega, by omega, ?_⟩
        exact Wk.cq 1
    · repeat' (first | ((with_reducible refine kAL ?_); (first | refine A_as rfl rfl rfl rfl ?_ | refine A_cmp (d := 9) rfl rfl (c := false) .lss 3 3 _ _ rfl rfl rfl (by exact congrArg some (decide_eq_false (by (try (dsimp only; fail_if_success done)); omega))) ?_ | refine AL.nil ?_)) | with_reducible refine AW.at_region _ ?_ | (with_reducible (first | refine wk0 ?_ | refine wk2 ?_ | refine wk4 ?_ | refine wk7 ?_ | refine wk9 ?_ | refine wkb ?_ | refine wkc ?_)) | refine kcf rfl ?_)
      all_goals first | (exfalso; omega) | (exact Fin.q Try.results60 (.cons (.tmp rfl) .nil) [])
theorem could_no {h : DHall} (s : Sn h) {t : Nat} {w : DWait} (hw : h.waits[t]? = some w) (ho : w.on = true) : ixF (couldH h t) w.cases < 0 := by
  rw [ixF_none (couldH h t) w.cases fun i k hk => ?_]
  · decide
  · have hm := List.mem_of_getElem? hk
    have R := s.rd t w hw ho k hm
    have hd := s.dr w (List.mem_of_getElem? hw) k hm
    have hn : (fir (cutW h.waits t) (3 - k.dir) k.handle).ok = false := by
      cases hF : (fir (cutW h.waits t) (3 - k.dir) k.handle).ok
      · rfl
      · obtain ⟨t', m, w', c, _, _, hw', hon, hc, g1, g2⟩ := fir_ok hF
        have hold := cut_sub hw' hon
        have hne : t' ≠ t := fun e => by
          subst e
          rw [cutW_yes (cutOk_yes hw ho), List.getElem?_set_self (get_lt hw)] at hw'
          cases hw'; cases hon
        exact absurd (by rw [g1]; omega) (R.no t' w' c hne hold hon (List.mem_of_getElem? hc) g2)
    unfold couldH
    rw [R.op, hn]
    by_cases h1 : k.dir = 1
    · rw [if_pos h1]; have := R.sd h1; simp; omega
    · rw [if_neg h1]; have := R.rc h1; rw [this]; simp
theorem wrong_c (h : DHall) (hh : okHl h) (s : Sn h) : Cd Try.prog 27 [aHl h] (i64 0) [] := by
  have c1 := snHandles_c h hh s.hd
  have c2 := snTickets_c h hh s.tk s.tn
  have c3 := snDone_c h hh s.dn
  have c4 := snReady_c h hh s.hd s.dr fun t w hw ho => could_no s hw ho
  have c5 := snOver_c h hh s.ov
  refine Cd.enter' Try.func27 rfl Try.ntmps27 rfl ?_
  repeat' (first | ((with_reducible refine kAL ?_); (first | refine A_box rfl rfl 29 _ rfl rfl (.push qL qN) ?_ | refine A_as rfl rfl rfl rfl ?_ | refine A_load_agg rfl rfl 29 _ rfl ud29 rfl inf29 rfl rfl (us' := [_, _, _, _]) rfl rfl ?_ | (refine kL 1802 rfl ?_; refine A_cl rfl rfl Try.func56 rfl (c1) ?_) | refine A_not rfl rfl _ _ rfl rfl ?_ | (refine kL 1834 rfl ?_; refine A_cl rfl rfl Try.func57 rfl (c2) ?_) | (refine kL 1866 rfl ?_; refine A_cl rfl rfl Try.func58 rfl (c3) ?_) | (refine kL 1898 rfl ?_; refine A_cl rfl rfl Try.func59 rfl (c4) ?_) | (refine kL 1930 rfl ?_; refine A_cl rfl rfl Try.func60 rfl (c5) ?_) | refine AL.nil ?_)) | with_reducible refine AW.at_region _ ?_ | (with_reducible (first | refine wk0 ?_ | refine wk1 ?_ | refine wk2 ?_ | refine wk5 ?_ | refine wk9 ?_ | refine wkb ?_ | refine wkd ?_)) | refine kcf rfl ?_)
  all_goals first | (exfalso; omega) | (exact Fin.q Try.results27 (.cons (.tmp rfl) .nil) [])
theorem wrongN_c (h : DHall) (hh : okHl h) (hd : ∀ w ∈ h.waits, ∀ k ∈ w.cases, fndOk h k.handle = true) (tk : ∀ w ∈ h.waits, w.on = true → 0 ≤ w.ticket ∧ w.ticket < h.ticket) (tn : ∀ (i j : Nat) w w', h.waits[i]? = some w → h.waits[j]? = some w' → w.on = true → w'.on = true → w.ticket = w'.ticket → i = j) (dn : Dn h.waits h.done)
    {w : DWait} (hx : h.waits[0]? = some w) (ho : w.on = true) (dr : ∀ k ∈ w.cases, k.dir = 1 ∨ k.dir = 2) (yes : 0 ≤ ixF (couldH h 0) w.cases) : Cd Try.prog 27 [aHl h] (i64 4) [] := by
  have c1 := snHandles_c h hh hd
  have c2 := snTickets_c h hh tk tn
  have c3 := snDone_c h hh dn
  have c4 := snReadyN_c h hh hx ho (hd w (List.mem_of_getElem? hx)) dr yes
  refine Cd.enter' Try.func27 rfl Try.ntmps27 rfl ?_
  repeat' (first | ((with_reducible refine kAL ?_); (first | refine A_box rfl rfl 29 _ rfl rfl (.push qL qN) ?_ | refine A_as rfl rfl rfl rfl ?_ | refine A_load_agg rfl rfl 29 _ rfl ud29 rfl inf29 rfl rfl (us' := [_, _, _, _]) rfl rfl ?_ | (refine kL 1802 rfl ?_; refine A_cl rfl rfl Try.func56 rfl (c1) ?_) | refine A_not rfl rfl _ _ rfl rfl ?_ | (refine kL 1834 rfl ?_; refine A_cl rfl rfl Try.func57 rfl (c2) ?_) | (refine kL 1866 rfl ?_; refine A_cl rfl rfl Try.func58 rfl (c3) ?_) | (refine kL 1898 rfl ?_; refine A_cl rfl rfl Try.func59 rfl (c4) ?_) | refine AL.nil ?_)) | with_reducible refine AW.at_region _ ?_ | (with_reducible (first | refine wk0 ?_ | refine wk1 ?_ | refine wk2 ?_ | refine wk3 ?_ | refine wk6 ?_ | refine wk9 ?_ | refine wkb ?_)) | refine kct rfl ?_ | refine kcf rfl ?_)
  all_goals first | (exfalso; omega) | (exact Fin.q Try.results27 (.cons (.tmp rfl) .nil) [])
end Go.Proofs.Ytphcebioiipdpaa


namespace Go.Proofs.Ytphcebioiipdpaa
set_option linter.unusedVariables false
set_option linter.unusedSimpArgs false
set_option linter.unnecessarySimpa false
open Go.RowKit
set_option maxHeartbeats 32000000
attribute [local irreducible] AL AW RG Fin C Cd Cio thenQ blockQ retQ
set_option maxRecDepth 100000
def isSend (k : DCase) : Bool := decide (k.dir = 1)
theorem load1_c (k : DCase) : Cd Try.prog 83 [.agg ((tCs k).map .t)] (bo (isSend k)) [] := by
  obtain ⟨d, x, v⟩ := k
  by_cases h1 : d = 1
  all_goals
    refine Cd.enter' Try.func83 rfl Try.ntmps83 rfl ?_
    repeat' (first | ((with_reducible refine kAL ?_); (first | refine A_box rfl rfl 45 _ rfl rfl (.push qL qN) ?_ | refine A_as rfl rfl rfl rfl ?_ | refine A_field rfl rfl 45 _ 0 rfl ud45 rfl inf3 (by decide) 0 rfl rfl ?_ | refine A_load rfl rfl 3 _ rfl ud3 rfl rfl rfl rfl ?_ | (refine kL 105 rfl ?_; (first | refine A_cmp (d := 5) rfl rfl (c := true) .eql 3 3 _ _ rfl rfl rfl (by exact congrArg some (decide_eq_true (by (try (dsimp only; fail_if_success done)); omega))) ?_ | refine A_cmp (d := 5) rfl rfl (c := false) .eql 3 3 _ _ rfl rfl rfl (by exact congrArg some (decide_eq_false (by (try (dsimp only; fail_if_success done)); omega))) ?_)) | refine AL.nil ?_)) | with_reducible refine AW.at_region _ ?_ | (with_reducible (first | refine wk0 ?_ | refine wk2 ?_ | refine wk9 ?_ | refine wkb ?_)))
    all_goals first | (exfalso; omega) | (refine Fin.q Try.results83 (.cons (.tmp rfl) .nil) [] (hr := (.t ?_)))
    all_goals first | (simp [isSend, h1]; done) | skip
theorem loadF_c (cs : List DCase) (hl : cs.length ≤ 5864062014805) : Cd Try.prog 82 [.ln (cs.map tCs), .fn (.func 83) [] []] (bo (cs.any isSend)) [] :=
  conFK_c 83 [] [] isSend cs (fun c _ => ⟨_, _, [], [], rfl, Try.func83, by kernel_rfl, by kernel_rfl, fun _ => .nil, fun _ => .nil, load1_c c⟩) rfl (fun _ _ => .fnL .nil .nil) (by omega)
def moreN (l : List DWait) : Nat → Nat
  | 0 => 0
  | k + 1 => if (l.getD k default).on && (l.getD k default).cases.any isSend then moreN l k + 1 else moreN l k
theorem moreN_next {l : List DWait} {k : Nat} {w : DWait} (hw : l[k]? = some w) : moreN l (k + 1) = if w.on && w.cases.any isSend then moreN l k + 1 else moreN l k := by
  show (if (l.getD k default).on && (l.getD k default).cases.any isSend then _ else _) = _
  rw [getD_of hw]
theorem moreN_le (l : List DWait) : ∀ k, moreN l k ≤ k
  | 0 => Nat.le_refl _
  | k + 1 => by have := moreN_le l k; unfold moreN; split <;> omega
structure LdR where
  q : Nat
  n : Nat
set_option maxHeartbeats 8000000 in
theorem load_c (h : DHall) (hh : okHl h) (hb : ∀ x ∈ h.chans, x.buf = []) : Cd Try.prog 53 [aHl h] (.tup [i64 0, i64 (moreN h.waits h.waits.length)]) [] := by
  have h1 : (h.chans.map tCh).length = h.chans.length := List.length_map _
  have h2 : (h.waits.map tWt).length = h.waits.length := List.length_map _
  have hc0 := hh.c
  have hw0 := hh.w.1
  refine Cd.enter' Try.func53 rfl Try.ntmps53 rfl ?_
  repeat' (first | ((with_reducible refine kAL ?_); (first | refine A_box rfl rfl 29 _ rfl rfl (.push qL qN) ?_ | refine A_as rfl rfl rfl rfl ?_ | refine A_field rfl rfl 29 _ 1 rfl ud29 rfl inf25 (by decide) 1 rfl rfl ?_ | refine A_load rfl rfl 25 _ rfl ud25 rfl rfl rfl rfl ?_ | refine A_len rfl rfl 25 _ rfl ud25 rfl ?_ | refine A_mt rfl rfl rfl rfl ?_ | refine AL.nil ?_)) | with_reducible refine AW.at_region _ ?_ | (with_reducible (first | refine wk0 ?_ | refine wk1 ?_ | refine wk2 ?_)))
  all_goals first | (exfalso; omega) | skip
  refine AW.loopP (fun (q : Nat) => q ≤ h.chans.length) (fun (q : Nat) => (pu (pu (pu (pu (pu (pu (fun _ => .any) 1 (.ptr 0 0)) 2 (i64 0)) 3 (i64 0)) 9 (.ln (h.chans.map tCh))) 10 (i64 (h.chans.map tCh).length)) 11 (i64 q))) (fun (q : Nat) => [.box 29 [i64 h.ticket, .ln (h.chans.map tCh), .ln (h.waits.map tWt), .ln (h.done.map tR)]]) (fun (q : Nat) => h.chans.length - q) (0) ?_ ?_ ?_
  · exact Nat.zero_le _
  · exact Wk.cq 1
  · intro q hq
    by_cases hi : q < h.chans.length
    · obtain ⟨x, hx⟩ : ∃ x, h.chans[q]? = some x := ⟨_, List.getElem?_eq_getElem hi⟩
      have hbx := hb x (List.mem_of_getElem? hx)
      obtain ⟨g, cap, used, closed, buf⟩ := x
      dsimp only at hbx
      subst hbx
      repeat' (first | ((with_reducible refine kAL ?_); (first | refine A_as rfl rfl rfl rfl ?_ | refine A_len rfl rfl 22 _ rfl ud22 rfl ?_ | refine A_mt rfl rfl rfl rfl ?_ | (refine kL 105 rfl ?_; (first | refine A_cmp (d := 12) rfl rfl (c := true) .lss 3 3 _ _ rfl rfl rfl (by exact congrArg some (decide_eq_true (by (try (dsimp only; fail_if_success done)); omega))) ?_ | refine A_add rfl rfl 3 3 _ _ rfl rfl rfl (by first | exact wi | rfl) ?_)) | (refine kL 806 rfl ?_; refine A_idx rfl rfl 25 _ _ rfl ud25 inf66 (by decide) (by exact .inl rfl) rfl (by omega) _ (by with_reducible exact Int.toNat_natCast _) (by exact map_get (by assumption)) rfl (cs' := [_, _, _, _, _]) rfl ?_) | refine A_load_lp_agg rfl rfl 66 _ rfl ud66 rfl inf66 rfl (us' := [_, _, _, _, _]) rfl rfl ?_ | refine A_alloc rfl rfl 66 rfl inf66 (cs := [.t (.v (.int .i64 0)), .t (.v (.int .i64 0)), .t (.v (.bool false)), .t (.v (.bool false)), AV.nl]) rfl (.push qL qN) ?_ | refine A_store rfl rfl 66 _ _ rfl inf66 rfl rfl rfl rfl (Nat.le_of_ble_eq_true rfl) qN qN ?_ | refine A_field rfl rfl 66 _ 4 rfl ud66 rfl inf22 (by decide) 4 rfl rfl ?_ | refine A_load rfl rfl 22 _ rfl ud22 rfl rfl rfl rfl ?_ | refine AL.nil ?_)) | with_reducible refine AW.at_region _ ?_ | (with_reducible (first | refine wk0 ?_ | refine wk1 ?_ | refine wk2 ?_ | refine wk5 ?_ | refine wkd ?_)) | refine kct rfl ?_)
      all_goals first | (exfalso; omega) | skip
      refine ⟨q + 1, by omega, by omega, ?_⟩
      exact Wk.cq 1
    · repeat' (first | ((with_reducible refine kAL ?_); (first | refine A_field rfl rfl 29 _ 2 rfl ud29 rfl inf26 (by decide) 2 rfl rfl ?_ | refine A_len rfl rfl 26 _ rfl ud26 rfl ?_ | refine A_mt rfl rfl rfl rfl ?_ | refine A_cmp (d := 12) rfl rfl (c := false) .lss 3 3 _ _ rfl rfl rfl (by exact congrArg some (decide_eq_false (by (try (dsimp only; fail_if_success done)); omega))) ?_ | refine A_load rfl rfl 26 _ rfl ud26 rfl rfl rfl rfl ?_ | refine AL.nil ?_)) | with_reducible refine AW.at_region _ ?_ | (with_reducible (first | refine wk0 ?_ | refine wk1 ?_ | refine wk2 ?_ | refine wk4 ?_ | refine wk7 ?_ | refine wkc ?_)) | refine kcf rfl ?_)
      all_goals first | (exfalso; omega) | skip
      refine AW.loopP (fun (x : LdR) => x.q ≤ h.waits.length ∧ x.n = moreN h.waits x.q) (fun (x : LdR) => (pu (pu (pu (pu (pu (pu (fun _ => .any) 1 (.ptr 0 0)) 2 (i64 0)) 3 (i64 x.n)) 22 (.ln (h.waits.map tWt))) 23 (i64 (h.waits.map tWt).length)) 24 (i64 x.q))) (fun (x : LdR) => [.box 29 [i64 h.ticket, .ln (h.chans.map tCh), .ln (h.waits.map tWt), .ln (h.done.map tR)]]) (fun (x : LdR) => h.waits.length - x.q) (⟨0, 0⟩) ?_ ?_ ?_
      · exact ⟨Nat.zero_le _, rfl⟩
      · exact Wk.cq 1
      · rintro ⟨q, n⟩ ⟨h3, h4⟩
        dsimp only at h3 h4 ⊢
        have h5 := moreN_le h.waits q
        rw [← h4] at h5
        by_cases hi : q < h.waits.length
        · obtain ⟨w, hx⟩ : ∃ x, h.waits[q]? = some x := ⟨_, List.getElem?_eq_getElem hi⟩
          have hn := moreN_next hx
          rw [← h4] at hn
          have cC := loadF_c w.cases (hh.w.at hx)
          obtain ⟨on, t, sq, cs⟩ := w
          dsimp only at cC hn
          generalize cs.any isSend = b at cC hn
          cases on <;> cases b
          all_goals
            repeat' (first | ((with_reducible refine kAL ?_); (first | refine A_as rfl rfl rfl rfl ?_ | refine A_mt rfl rfl rfl rfl ?_ | (refine kL 105 rfl ?_; (first | refine A_add rfl rfl 3 3 _ _ rfl rfl rfl (by first | exact wi | rfl) ?_ | refine A_cmp (d := 25) rfl rfl (c := true) .lss 3 3 _ _ rfl rfl rfl (by exact congrArg some (decide_eq_true (by (try (dsimp only; fail_if_success done)); omega))) ?_)) | (refine kL 838 rfl ?_; refine A_idx rfl rfl 26 _ _ rfl ud26 inf43 (by decide) (by exact .inl rfl) rfl (by omega) _ (by with_reducible exact Int.toNat_natCast _) (by exact map_get (by assumption)) rfl (cs' := [_, _, _, _]) rfl ?_) | refine A_load_lp_agg rfl rfl 43 _ rfl ud43 rfl inf43 rfl (us' := [_, _, _, _]) rfl rfl ?_ | refine A_alloc rfl rfl 43 rfl inf43 (cs := [.t (.v (.bool false)), .t (.v (.int .i64 0)), .t (.v (.int .i64 0)), AV.nl]) rfl (.push qL qN) ?_ | refine A_store rfl rfl 43 _ _ rfl inf43 rfl rfl rfl rfl (Nat.le_of_ble_eq_true rfl) qN qN ?_ | (refine kL 1380 rfl ?_; (first | refine A_field rfl rfl 43 _ 0 rfl ud43 rfl inf4 (by decide) 0 rfl rfl ?_ | refine A_field rfl rfl 43 _ 3 rfl ud43 rfl inf30 (by decide) 3 rfl rfl ?_)) | refine A_load rfl rfl 4 _ rfl ud4 rfl rfl rfl rfl ?_ | refine A_load rfl rfl 30 _ rfl ud30 rfl rfl rfl rfl ?_ | (refine kL 2634 rfl ?_; refine A_cl rfl rfl Try.func82 rfl (cC) ?_) | (refine kL 19 rfl ?_; (first | refine A_pkt rfl rfl _ _ _ rfl rfl rfl ?_ | refine A_pkf rfl rfl _ _ _ rfl rfl rfl ?_)) | refine AL.nil ?_ | refine AL.skip rfl rfl ?_)) | with_reducible refine AW.at_region _ ?_ | (with_reducible (first | refine wk0 ?_ | refine wk1 ?_ | refine wk2 ?_ | refine wk5 ?_ | refine wkd ?_)) | refine kct rfl ?_ | refine kcf rfl ?_)
            all_goals first | (exfalso; omega) | (refine ⟨⟨q + 1, n + 1⟩, ⟨by dsimp only; omega, hn.symm⟩, by dsimp only; omega, ?_⟩; (exact Wk.cq 1); done) | (refine ⟨⟨q + 1, n⟩, ⟨by dsimp only; omega, hn.symm⟩, by dsimp only; omega, ?_⟩; (exact Wk.cq 1); done)
        · have e : q = h.waits.length := by omega
          subst e
          subst h4
          repeat' (first | ((with_reducible refine kAL ?_); (first | refine A_as rfl rfl rfl rfl ?_ | refine A_mt rfl rfl rfl rfl ?_ | refine A_cmp (d := 25) rfl rfl (c := false) .lss 3 3 _ _ rfl rfl rfl (by exact congrArg some (decide_eq_false (by (try (dsimp only; fail_if_success done)); omega))) ?_ | refine AL.nil ?_)) | with_reducible refine AW.at_region _ ?_ | (with_reducible (first | refine wk0 ?_ | refine wk2 ?_ | refine wk4 ?_ | refine wk7 ?_ | refine wk9 ?_ | refine wkb ?_ | refine wkc ?_)) | refine kcf rfl ?_)
          all_goals first | (exfalso; omega) | (exact Fin.q Try.results53 (.cons (.tmp rfl) (.cons (.tmp rfl) .nil)) [])
def isKD (x d : Int) (k : DCase) : Bool := decide (k.handle = x) && decide (k.dir = d)
theorem wtg1_c (x d : Int) (k : DCase) : Cd Try.prog 87 [.agg ((tCs k).map .t), .lp [i64 x], .lp [i64 d]] (bo (isKD x d k)) [] := by
  obtain ⟨kd, kx, kv⟩ := k
  by_cases h1 : kx = x
  · by_cases h2 : kd = d
    all_goals
      refine Cd.enter' Try.func87 rfl Try.ntmps87 rfl ?_
      repeat' (first | ((with_reducible refine kAL ?_); (first | refine A_box rfl rfl 45 _ rfl rfl (.push qL qN) ?_ | refine A_as rfl rfl rfl rfl ?_ | (refine kL 1444 rfl ?_; (first | refine A_field rfl rfl 45 _ 1 rfl ud45 rfl inf3 (by decide) 1 rfl rfl ?_ | refine A_field rfl rfl 45 _ 0 rfl ud45 rfl inf3 (by decide) 0 rfl rfl ?_)) | (refine kL 98 rfl ?_; (first | refine A_load rfl rfl 3 _ rfl ud3 rfl rfl rfl rfl ?_ | refine A_load_lp rfl rfl 3 _ rfl ud3 rfl rfl rfl ?_)) | (refine kL 105 rfl ?_; (first | refine A_cmp (d := 8) rfl rfl (c := true) .eql 3 3 _ _ rfl rfl rfl (by exact congrArg some (decide_eq_true (by (try (dsimp only; fail_if_success done)); omega))) ?_ | refine A_cmp (d := 13) rfl rfl (c := true) .eql 3 3 _ _ rfl rfl rfl (by exact congrArg some (decide_eq_true (by (try (dsimp only; fail_if_success done)); omega))) ?_ | refine A_cmp (d := 13) rfl rfl (c := false) .eql 3 3 _ _ rfl rfl rfl (by exact congrArg some (decide_eq_false (by (try (dsimp only; fail_if_success done)); omega))) ?_)) | refine A_mt rfl rfl rfl rfl ?_ | (refine kL 19 rfl ?_; refine A_pkt rfl rfl _ _ _ rfl rfl rfl ?_) | refine AL.nil ?_)) | with_reducible refine AW.at_region _ ?_ | (with_reducible (first | refine wk0 ?_ | refine wk2 ?_ | refine wk9 ?_ | refine wkb ?_)))
      all_goals first | (exfalso; omega) | (refine Fin.q Try.results87 (.cons (.tmp rfl) .nil) [] (hr := (.t ?_)))
      all_goals first | (simp [isKD, h1, h2]; done) | skip
  · refine Cd.enter' Try.func87 rfl Try.ntmps87 rfl ?_
    repeat' (first | ((with_reducible refine kAL ?_); (first | refine A_box rfl rfl 45 _ rfl rfl (.push qL qN) ?_ | refine A_as rfl rfl rfl rfl ?_ | refine A_field rfl rfl 45 _ 1 rfl ud45 rfl inf3 (by decide) 1 rfl rfl ?_ | (refine kL 98 rfl ?_; (first | refine A_load rfl rfl 3 _ rfl ud3 rfl rfl rfl rfl ?_ | refine A_load_lp rfl rfl 3 _ rfl ud3 rfl rfl rfl ?_)) | refine A_cmp (d := 8) rfl rfl (c := false) .eql 3 3 _ _ rfl rfl rfl (by exact congrArg some (decide_eq_false (by (try (dsimp only; fail_if_success done)); omega))) ?_ | refine A_mt rfl rfl rfl rfl ?_ | (refine kL 19 rfl ?_; refine A_pkf rfl rfl _ _ _ rfl rfl rfl ?_) | refine AL.nil ?_ | refine AL.skip rfl rfl ?_)) | with_reducible refine AW.at_region _ ?_ | (with_reducible (first | refine wk0 ?_ | refine wk2 ?_ | refine wk9 ?_ | refine wkb ?_)))
    all_goals first | (exfalso; omega) | (refine Fin.q Try.results87 (.cons (.tmp rfl) .nil) [] (hr := (.t ?_)))
    all_goals first | (simp [isKD, h1]; done) | skip
theorem wtgF_c (x d : Int) (cs : List DCase) (hl : cs.length ≤ 5864062014805) : Cd Try.prog 82 [.ln (cs.map tCs), .fn (.func 87) [] [.lp [i64 x], .lp [i64 d]]] (bo (cs.any (isKD x d))) [] :=
  conFK_c 87 [] [.lp [i64 x], .lp [i64 d]] (isKD x d) cs (fun c _ => ⟨_, _, [], [.lp [i64 x], .lp [i64 d]], rfl, Try.func87, by kernel_rfl, by kernel_rfl, fun _ => .nil, fun _ => .cons (.lpL (.cons (.t _) .nil)) (.cons (.lpL (.cons (.t _) .nil)) .nil), wtg1_c x d c⟩) rfl (fun _ _ => .fnL .nil (.cons (.lpL (.cons (.t _) .nil)) (.cons (.lpL (.cons (.t _) .nil)) .nil))) (by omega)
theorem wtg_c (h : DHall) (hh : okHl h) (x d : Int) {t : Nat} {w : DWait} (hw : h.waits[t]? = some w) : Cd Try.prog 86 [i64 t, .lp [i64 h.ticket, .ln (h.chans.map tCh), .ln (h.waits.map tWt), .ln (h.done.map tR)], .lp [i64 x], .lp [i64 d]] (bo (!(w.cases.any (isKD x d)))) [] := by
  have h2 : (h.waits.map tWt).length = h.waits.length := List.length_map _
  have hi := get_lt hw
  have cC := wtgF_c x d w.cases (hh.w.at hw)
  generalize w.cases.any (isKD x d) = b at *
  obtain ⟨on, tk, sq, cs⟩ := w
  dsimp only at cC
  refine Cd.enter' Try.func86 rfl Try.ntmps86 rfl ?_
  repeat' (first | ((with_reducible refine kAL ?_); (first | refine A_as rfl rfl rfl rfl ?_ | refine A_field rfl rfl 29 _ 2 rfl ud29 rfl inf26 (by decide) 2 rfl rfl ?_ | refine A_load_lp rfl rfl 26 _ rfl ud26 rfl rfl rfl ?_ | refine A_mt rfl rfl rfl rfl ?_ | (refine kL 838 rfl ?_; refine A_idx rfl rfl 26 _ _ rfl ud26 inf43 (by decide) (by exact .inl rfl) rfl (by omega) _ (by with_reducible exact Int.toNat_natCast _) (by exact map_get (by assumption)) rfl (cs' := [_, _, _, _]) rfl ?_) | refine A_field rfl rfl 43 _ 3 rfl ud43 rfl inf30 (by decide) 3 rfl rfl ?_ | refine A_load_lp rfl rfl 30 _ rfl ud30 rfl rfl rfl ?_ | (refine kL 21 rfl ?_; refine A_fn rfl rfl _ _ _ rfl .nil (.cons rfl (.cons rfl .nil)) ?_) | (refine kL 2634 rfl ?_; refine A_cl rfl rfl Try.func82 rfl (cC) ?_) | refine A_not rfl rfl _ _ rfl rfl ?_ | refine AL.nil ?_)) | with_reducible refine AW.at_region _ ?_ | (with_reducible (first | refine wk0 ?_ | refine wk2 ?_ | refine wk9 ?_ | refine wkb ?_)))
  all_goals first | (exfalso; omega) | (exact Fin.q Try.results86 (.cons (.tmp rfl) .nil) [])
set_option maxHeartbeats 8000000 in
theorem delNone_c (f : FuncId) (fi cap : List AV) (l : List Int) (hg : ∀ c ∈ l, CV Try.prog (.fn (.func f) fi cap) [i64 c] (.t (.v (.bool false))) []) (hup : upB (keepG 0) (.fn (.func f) fi cap) = .fn (.func f) fi cap) (hps : ∀ heap sel, Pass heap sel (.fn (.func f) fi cap) (.fn (.func f) fi cap))
    (hl : l.length ≤ 1152921504606846976) : Cd Try.prog 84 [.t (.lst (l.map tI)), .fn (.func f) fi cap] (.t (.lst (l.map tI))) [] := by
  have c1 := idxFI_c f fi cap (fun _ => false) l hg hup hl
  rw [ixF_none (fun _ => false) l fun _ _ _ => rfl] at c1
  refine Cd.enter' Try.func84 rfl Try.ntmps84 rfl ?_
  repeat' (first | ((with_reducible refine kAL ?_); (first | (refine kL 1 rfl ?_; (first | refine A_as rfl rfl rfl rfl ?_ | refine A_move rfl rfl _ (.inr rfl) (y := .nl) rfl ?_)) | (refine kL 0 rfl ?_; (first | refine A_mt rfl rfl rfl rfl ?_ | refine A_move rfl rfl _ (.inl rfl) (y := .fn _ _ _) rfl ?_)) | (refine kL 3370 rfl ?_; refine A_cl rfl rfl Try.func105 rfl (c1) ?_) | refine A_cmp (d := 12) rfl rfl (c := true) .eql 3 3 _ _ rfl rfl rfl (by exact congrArg some (decide_eq_true (by (try (dsimp only; fail_if_success done)); omega))) ?_ | refine AL.nil ?_)) | with_reducible refine AW.at_region _ ?_ | (with_reducible (first | refine wk0 ?_ | refine wk2 ?_ | refine wk3 ?_ | refine wk9 ?_ | refine wkb ?_)) | refine kct rfl ?_)
  all_goals first | (exfalso; omega) | (exact Fin.q Try.results84 (.cons (.tmp rfl) .nil) [])
theorem onAllF_c (l : List DWait) (x : Int) (hl : okW l) : Cd Try.prog 85 [.ln (l.map tWt), i64 x] (.t (.lst ((onS l x).map tI))) [] := by
  have h0 := onAll_c l x hl
  have h1 : (onS l x).length = (onK l x l.length).length := by unfold onS; exact isort_len _
  change Cd _ _ _ _ [.row 0 3 1 ((onS l x).map tI)] at h0
  generalize onS l x = S at *
  generalize onK l x l.length = K at *
  have h0' := Cd.frz1 h0 0 rfl (by repeat' (first | exact FzL.nil | apply FzL.cons | exact FzR.nlt | exact FzR.all (by first | rfl | (simp <;> fail) | (simp; omega)) | exact FzR.sl (by first | exact Nat.le_refl _ | (simp <;> fail) | (simp; omega)) | apply FzR.aggL | exact FzR.same _)) rfl; exact Cd.drop h0' rfl
set_option maxHeartbeats 8000000 in
theorem waiting_c (h : DHall) (hh : okHl h) (x d : Int) (hall : ∀ z ∈ onS h.waits x, ∃ (t : Nat) (w : DWait), z = t ∧ h.waits[t]? = some w ∧ w.cases.any (isKD x d) = true) : Cd Try.prog 54 [aHl h, i64 x, i64 d] (.t (.lst ((onS h.waits x).map tI))) [] := by
  have cO := onAllF_c h.waits x hh.w
  have hSl := (onS_b h.waits x).2.1
  have hw0 := hh.w.1
  generalize onS h.waits x = S at *
  have cD := delNone_c 86 [] [.lp [i64 h.ticket, .ln (h.chans.map tCh), .ln (h.waits.map tWt), .ln (h.done.map tR)], .lp [i64 x], .lp [i64 d]] S (fun c hc => by
    obtain ⟨t, w, rfl, hw, hy⟩ := hall c hc
    have := wtg_c h hh x d hw
    rw [hy] at this
    exact ⟨_, _, [], [.lp [i64 h.ticket, .ln (h.chans.map tCh), .ln (h.waits.map tWt), .ln (h.done.map tR)], .lp [i64 x], .lp [i64 d]], rfl, Try.func86, by kernel_rfl, by kernel_rfl, fun _ => .nil, fun _ => .cons (.lpL (.cons (.t _) (.cons (.ln _) (.cons (.ln _) (.cons (.ln _) .nil))))) (.cons (.lpL (.cons (.t _) .nil)) (.cons (.lpL (.cons (.t _) .nil)) .nil)), this⟩) rfl (fun _ _ => .fnL .nil (.cons (.lpL (.cons (.t _) (.cons (.ln _) (.cons (.ln _) (.cons (.ln _) .nil))))) (.cons (.lpL (.cons (.t _) .nil)) (.cons (.lpL (.cons (.t _) .nil)) .nil)))) (by omega)
  refine Cd.enter' Try.func54 rfl Try.ntmps54 rfl ?_
  repeat' (first | ((with_reducible refine kAL ?_); (first | refine A_box rfl rfl 29 _ rfl rfl (.push qL qN) ?_ | refine A_box rfl rfl 3 _ rfl rfl (.push qL qN) ?_ | (refine kL 1 rfl ?_; (first | refine A_as rfl rfl rfl rfl ?_ | refine A_move rfl rfl _ (.inr rfl) (y := .nl) rfl ?_)) | refine A_field rfl rfl 29 _ 2 rfl ud29 rfl inf26 (by decide) 2 rfl rfl ?_ | refine A_load rfl rfl 26 _ rfl ud26 rfl rfl rfl rfl ?_ | refine A_load rfl rfl 3 _ rfl ud3 rfl rfl rfl rfl ?_ | (refine kL 2730 rfl ?_; refine A_cl rfl rfl Try.func85 rfl (cO) ?_) | (refine kL 21 rfl ?_; refine A_fn rfl rfl _ _ _ rfl .nil (.cons rfl (.cons rfl (.cons rfl .nil))) ?_) | (refine kL 2698 rfl ?_; refine A_cl rfl rfl Try.func84 rfl (cD) ?_) | refine AL.nil ?_)) | with_reducible refine AW.at_region _ ?_ | (with_reducible (first | refine wk0 ?_ | refine wk2 ?_ | refine wk9 ?_ | refine wkb ?_)))
  all_goals first | (exfalso; omega) | (exact Fin.q Try.results54 (.cons (.tmp rfl) .nil) [])
def openK (l : List DChan) : Nat → List Int
  | 0 => []
  | k + 1 => if (l.getD k default).used && !(l.getD k default).closed then openK l k ++ [hdl k (l.getD k default).gen] else openK l k
theorem openK_next {l : List DChan} {k : Nat} {x : DChan} (hx : l[k]? = some x) : openK l (k + 1) = if x.used && !x.closed then openK l k ++ [hdl k x.gen] else openK l k := by
  show (if (l.getD k default).used && !(l.getD k default).closed then _ else _) = _
  rw [getD_of hx]
theorem openK_len (l : List DChan) : ∀ k, (openK l k).length ≤ k
  | 0 => Nat.le_refl _
  | k + 1 => by have := openK_len l k; unfold openK; split <;> simp <;> omega
structure OpS where
  q : Nat
  k : Nat
  n : Nat
  O : List Int
set_option maxHeartbeats 8000000 in
theorem opens_c (h : DHall) (h0 : h.chans.length ≤ 2932031007402) : Cd Try.prog 55 [aHl h] (.t (.lst ((openK h.chans h.chans.length).map tI))) [] := by
  have h1 : (h.chans.map tCh).length = h.chans.length := List.length_map _
  have c0 : Cd Try.prog 55 [aHl h] (.sl 0 0 (openK h.chans h.chans.length).length) [.row 0 3 1 ((openK h.chans h.chans.length).map tI)] := by
    refine Cd.enter' Try.func55 rfl Try.ntmps55 rfl ?_
    repeat' (first | ((with_reducible refine kAL ?_); (first | refine A_box rfl rfl 29 _ rfl rfl (.push qL qN) ?_ | refine A_move rfl rfl _ (.inr rfl) (y := .nl) rfl ?_ | refine A_field rfl rfl 29 _ 1 rfl ud29 rfl inf25 (by decide) 1 rfl rfl ?_ | refine A_load rfl rfl 25 _ rfl ud25 rfl rfl rfl rfl ?_ | refine A_len rfl rfl 25 _ rfl ud25 rfl ?_ | refine A_mt rfl rfl rfl rfl ?_ | refine AL.nil ?_)) | with_reducible refine AW.at_region _ ?_ | (with_reducible (first | refine wk0 ?_ | refine wk1 ?_ | refine wk2 ?_)))
    all_goals first | (exfalso; omega) | skip
    refine AW.wk (Wk.own 3 rfl 3 1 (.push rfl rfl)) ?_
    refine AW.loopP (fun (x : OpS) => x.q ≤ h.chans.length ∧ x.O = openK h.chans x.q ∧ x.n = x.O.length) (fun (x : OpS) => (pu (pu (pu (pu (pu (fun _ => .any) 1 (.ptr 0 0)) 3 (.sl 1 x.k x.n)) 7 (.ln (h.chans.map tCh))) 8 (i64 (h.chans.map tCh).length)) 9 (i64 x.q))) (fun (x : OpS) => [.box 29 [i64 h.ticket, .ln (h.chans.map tCh), .ln (h.waits.map tWt), .ln (h.done.map tR)], .row x.k 3 1 (x.O.map tI)]) (fun (x : OpS) => h.chans.length - x.q) (⟨0, 0, 0, []⟩) ?_ ?_ ?_
    · exact ⟨Nat.zero_le _, rfl, rfl⟩
    · exact Wk.cq 2
    · rintro ⟨q, k, n, O⟩ ⟨h2, h3, h4⟩
      dsimp only at h2 h3 h4 ⊢
      have hO := openK_len h.chans q
      rw [← h3] at hO
      have hO2 : (O.map tI).length = n := by rw [List.length_map, h4]
      by_cases hq : q < h.chans.length
      · obtain ⟨⟨g, cap, used, closed, buf⟩, hc⟩ : ∃ c, h.chans[q]? = some c := ⟨_, List.getElem?_eq_getElem hq⟩
        have hn := openK_next hc
        rw [← h3] at hn
        dsimp only at hn
        have cH := handle_c q g
        cases used <;> cases closed
        all_goals
          repeat' (first | ((with_reducible refine kAL ?_); (first | (refine kL 1 rfl ?_; (first | refine A_as rfl rfl rfl rfl ?_ | refine A_move rfl rfl _ (.inr rfl) (y := .sl _ _ _) rfl ?_)) | (refine kL 12 rfl ?_; refine A_append rfl rfl _ _ 22 rfl ud22 inf3 rfl rfl rfl (by (simp; omega)) (by exact .all rfl (by rfl)) qB qB (by exact app_one (f := tI) (x := _) (by omega)) qN qS ?_) | (refine kL 0 rfl ?_; (first | refine A_mt rfl rfl rfl rfl ?_ | refine A_move rfl rfl _ (.inl rfl) (y := .sl _ _ _) rfl ?_)) | (refine kL 105 rfl ?_; (first | refine A_cmp (d := 10) rfl rfl (c := true) .lss 3 3 _ _ rfl rfl rfl (by exact congrArg some (decide_eq_true (by (try (dsimp only; fail_if_success done)); omega))) ?_ | refine A_add rfl rfl 3 3 _ _ rfl rfl rfl (by exact wi) ?_)) | (refine kL 806 rfl ?_; refine A_idx rfl rfl 25 _ _ rfl ud25 inf66 (by decide) (by exact .inl rfl) rfl (by omega) _ (by with_reducible exact Int.toNat_natCast _) (by exact map_get (by assumption)) rfl (cs' := [_, _, _, _, _]) rfl ?_) | refine A_load_lp_agg rfl rfl 66 _ rfl ud66 rfl inf66 rfl (us' := [_, _, _, _, _]) rfl rfl ?_ | refine A_alloc rfl rfl 66 rfl inf66 (cs := [.t (.v (.int .i64 0)), .t (.v (.int .i64 0)), .t (.v (.bool false)), .t (.v (.bool false)), AV.nl]) rfl (.push qL qN) ?_ | refine A_store rfl rfl 66 _ _ rfl inf66 rfl rfl rfl rfl (Nat.le_of_ble_eq_true rfl) qN qN ?_ | (refine kL 2116 rfl ?_; (first | refine A_field rfl rfl 66 _ 2 rfl ud66 rfl inf4 (by decide) 2 rfl rfl ?_ | refine A_field rfl rfl 66 _ 3 rfl ud66 rfl inf4 (by decide) 3 rfl rfl ?_ | refine A_field rfl rfl 66 _ 0 rfl ud66 rfl inf3 (by decide) 0 rfl rfl ?_)) | refine A_load rfl rfl 4 _ rfl ud4 rfl rfl rfl rfl ?_ | refine A_not rfl rfl _ _ rfl rfl ?_ | (refine kL 19 rfl ?_; (first | refine A_pkt rfl rfl _ _ _ rfl rfl rfl ?_ | refine A_pkf rfl rfl _ _ _ rfl rfl rfl ?_)) | refine A_load rfl rfl 3 _ rfl ud3 rfl rfl rfl rfl ?_ | (refine kL 1386 rfl ?_; refine A_cl rfl rfl Try.func43 rfl (cH) ?_) | (refine kL 719 rfl ?_; refine A_lit rfl rfl 22 1 _ rfl ud22 inf3 (.cons rfl .nil) (els := [[_]]) rfl (by exact (rfl : _ = List.map tI [_])) rfl (Nat.ne_of_beq_eq_false rfl) (Nat.le_of_ble_eq_true rfl) (Nat.le_of_ble_eq_true rfl) (.push qL qN) ?_) | refine AL.nil ?_ | refine AL.skip rfl rfl ?_)) | with_reducible refine AW.at_region _ ?_ | (with_reducible (first | refine wk0 ?_ | refine wk1 ?_ | refine wk2 ?_ | refine wk5 ?_ | refine wkd ?_)) | refine kct rfl ?_ | refine kcf rfl ?_)
          all_goals first | (exfalso; omega) | (refine ⟨⟨q + 1, k + 1, n + 1, O ++ [hdl q g]⟩, ⟨by dsimp only; omega, hn.symm, by dsimp only; rw [List.length_append, h4]; rfl⟩, by dsimp only; omega, ?_⟩; (exact Wk.cq 2); done) | (refine ⟨⟨q + 1, k, n, O⟩, ⟨by dsimp only; omega, hn.symm, h4⟩, by dsimp only; omega, ?_⟩; (exact Wk.cq 2); done)
      · have e : q = h.chans.length := by omega
        subst e
        subst h3
        subst h4
        repeat' (first | ((with_reducible refine kAL ?_); (first | refine A_move rfl rfl _ (.inr rfl) (y := .sl _ _ _) rfl ?_ | refine A_move rfl rfl _ (.inl rfl) (y := .sl _ _ _) rfl ?_ | refine A_cmp (d := 10) rfl rfl (c := false) .lss 3 3 _ _ rfl rfl rfl (by exact congrArg some (decide_eq_false (by (try (dsimp only; fail_if_success done)); omega))) ?_ | refine AL.nil ?_)) | with_reducible refine AW.at_region _ ?_ | (with_reducible (first | refine wk0 ?_ | refine wk2 ?_ | refine wk4 ?_ | refine wk7 ?_ | refine wk9 ?_ | refine wkb ?_ | refine wkc ?_)) | refine kcf rfl ?_)
        all_goals first | (exfalso; omega) | (exact Fin.q Try.results55 (.cons (.tmp rfl) .nil) [1])
  have hO := openK_len h.chans h.chans.length
  generalize openK h.chans h.chans.length = O at *
  have c0' := Cd.frz1 c0 0 rfl (by repeat' (first | exact FzL.nil | apply FzL.cons | exact FzR.nlt | exact FzR.all (by first | rfl | (simp <;> fail) | (simp; omega)) | exact FzR.sl (by first | exact Nat.le_refl _ | (simp <;> fail) | (simp; omega)) | apply FzR.aggL | exact FzR.same _)) rfl; exact Cd.drop c0' rfl
end Go.Proofs.Ytphcebioiipdpaa


namespace Go.Proofs.Ytphcebioiipdpaa
set_option linter.unusedVariables false
set_option linter.unusedSimpArgs false
set_option linter.unnecessarySimpa false
open Go.RowKit
set_option maxHeartbeats 32000000
attribute [local irreducible] AL AW RG Fin C Cd Cio thenQ blockQ retQ
set_option maxRecDepth 100000
attribute [local simp] putW_len cutW_len
structure ShR where
  q : Nat
  k : Nat
  R : List DWait
  T : List DTold
end Go.Proofs.Ytphcebioiipdpaa


namespace Go.Proofs.Ytphcebioiipdpaa
set_option linter.unusedVariables false
set_option linter.unusedSimpArgs false
set_option linter.unnecessarySimpa false
open Go.RowKit
set_option maxHeartbeats 32000000
attribute [local irreducible] AL AW RG Fin C Cd Cio thenQ blockQ retQ
set_option maxRecDepth 100000
structure HcR where
  q : Nat
  k : Nat
  O : List DChan
end Go.Proofs.Ytphcebioiipdpaa


namespace Go.Proofs.Ytphcebioiipdpaa
set_option linter.unusedVariables false
set_option linter.unusedSimpArgs false
set_option linter.unnecessarySimpa false
open Go.RowKit
set_option maxHeartbeats 32000000
attribute [local irreducible] AL AW RG Fin C Cd Cio thenQ blockQ retQ
set_option maxRecDepth 100000
structure HnS where
  q : Nat
  k : Nat
  O : List Int
end Go.Proofs.Ytphcebioiipdpaa


namespace Go.Proofs.Ytphcebioiipdpaa
set_option linter.unusedVariables false
set_option linter.unusedSimpArgs false
set_option linter.unnecessarySimpa false
open Go.RowKit
set_option maxHeartbeats 32000000
attribute [local irreducible] AL AW RG Fin C Cd Cio thenQ blockQ retQ
set_option maxRecDepth 100000
theorem stC_ge {s : List Int} {p i : Nat} (h : p ≤ i) : stC s p (i + 1) = stC s p i := by
  refine List.ext_getElem? fun j => ?_
  by_cases hj : j < p
  · rw [stC_get s hj, stC_get s hj]
    by_cases q : j < s.length
    · rw [if_pos ⟨by omega, q⟩, if_pos ⟨by omega, q⟩]
    · rw [if_neg (by omega), if_neg (by omega)]
  · rw [List.getElem?_eq_none (by rw [stC_len]; omega), List.getElem?_eq_none (by rw [stC_len]; omega)]
theorem stC_full (s : List Int) (p : Nat) : stC s p s.length = stC s p p := by
  refine List.ext_getElem? fun j => ?_
  by_cases hj : j < p
  · rw [stC_get s hj, stC_get s hj]
    by_cases q : j < s.length
    · rw [if_pos ⟨q, q⟩, if_pos ⟨hj, q⟩]
    · rw [if_neg (by omega), if_neg (by omega)]
  · rw [List.getElem?_eq_none (by rw [stC_len]; omega), List.getElem?_eq_none (by rw [stC_len]; omega)]
set_option maxHeartbeats 8000000 in
theorem hstart_c (c : DConf) (hs0 : c.start.length ≤ 1152921504606846976) : Cd Try.prog 13 [aCf c] (.agg [i64 0, .sl 0 0 (plN c), .sl 1 0 (thN c), .sl 2 0 (thN c)]) [.row 0 66 5 ((stC c.start (plN c) (plN c)).map tCh), .row 0 43 4 ((List.replicate (thN c) (⟨false, 0, 0, []⟩ : DWait)).map tWt), .row 0 50 4 ((List.replicate (thN c) (⟨0, 0, 0, 0⟩ : Rst)).map tR)] := by
  have h1 : (c.start.map tI).length = c.start.length := List.length_map _
  have hp : ((plN c : Nat) : Int) = max (min c.chans 8) 0 := by have := plN_e c; omega
  have ht : ((thN c : Nat) : Int) = max (min c.threads 64) 0 := by have := thN_e c; omega
  have hp8 := (plN_e c).2
  have ht64 := (thN_e c).2
  generalize plN c = p at *
  generalize thN c = th at *
  refine Cd.enter' Try.func13 rfl Try.ntmps13 rfl ?_
  repeat' (first | ((with_reducible refine kAL ?_); (first | refine A_box rfl rfl 24 _ rfl rfl (.push qL qN) ?_ | refine A_alloc rfl rfl 29 rfl inf29 (cs := [.t (.v (.int .i64 0)), AV.nl, AV.nl, AV.nl]) rfl (.push qL qN) ?_ | refine A_field rfl rfl 24 _ 10 rfl ud24 rfl inf22 (by decide) 10 rfl rfl ?_ | refine A_load rfl rfl 22 _ rfl ud22 rfl rfl rfl rfl ?_ | refine A_len rfl rfl 22 _ rfl ud22 rfl ?_ | refine A_mt rfl rfl rfl rfl ?_ | refine AL.nil ?_)) | ((with_reducible refine kRG ?_); (first | (refine kR 772 rfl ?_; (first | refine R_field rfl rfl 24 _ 2 rfl ud24 rfl inf3 (by decide) 2 rfl rfl ?_ | refine R_field rfl rfl 24 _ 1 rfl ud24 rfl inf3 (by decide) 1 rfl rfl ?_)) | refine R_load rfl rfl 3 _ rfl ud3 rfl rfl rfl rfl ?_ | (refine kR 12 rfl ?_; (first | refine R_min rfl rfl _ _ _ rfl rfl rfl ?_ | refine R_max rfl rfl _ _ _ rfl rfl rfl ?_)) | refine R_as rfl rfl rfl rfl ?_ | refine R_mt rfl rfl rfl rfl ?_ | (refine kR 816 rfl ?_; refine R_make (N := 2) rfl rfl 25 _ _ rfl ud25 inf66 rfl (zs := [(.v (.int .i64 0)), (.v (.int .i64 0)), (.v (.bool false)), (.v (.bool false)), .lst []]) rfl rfl rfl p (by omega) (by omega) qB qB (by exact rep_map (f := tCh) (x := ⟨_, _, _, _, []⟩)) rfl qN ?_) | (refine kR 848 rfl ?_; refine R_make (N := 3) rfl rfl 26 _ _ rfl ud26 inf43 rfl (zs := [(.v (.bool false)), (.v (.int .i64 0)), (.v (.int .i64 0)), .lst []]) rfl rfl rfl th (by omega) (by omega) qB qB (by exact rep_map (f := tWt) (x := ⟨_, _, _, []⟩)) rfl qN ?_) | (refine kR 880 rfl ?_; refine R_make (N := 4) rfl rfl 27 _ _ rfl ud27 inf50 rfl (zs := [(.v (.int .i64 0)), (.v (.int .i64 0)), (.v (.int .i64 0)), (.v (.int .i64 0))]) rfl rfl rfl th (by omega) (by omega) qB qB (by exact rep_map (f := tR) (x := ⟨_, _, _, _⟩)) rfl qN ?_) | (refine kR 942 rfl ?_; refine R_build rfl rfl 29 _ rfl ud29 inf29 [(0, 1), (1, 1), (2, 1), (3, 1)] (by kernel_rfl) (zs := [.t (.v (.int .i64 0)), AV.nl, AV.nl, AV.nl]) rfl (.cons rfl (.cons rfl (.cons rfl .nil))) (cs := [_, _, _, _]) rfl ?_) | refine R_alloc (N := 5) rfl rfl 29 rfl inf29 (cs := [.t (.v (.int .i64 0)), AV.nl, AV.nl, AV.nl]) rfl rfl qN ?_ | refine R_store rfl rfl 29 _ _ rfl inf29 rfl rfl rfl rfl (Nat.le_of_ble_eq_true rfl) qN qN ?_ | refine RG.nil ⟨by kernel_rfl, ?_⟩)) | (with_reducible (first | refine wk0 ?_ | refine wk1 ?_ | refine wk2 ?_)) | with_reducible refine AW.at_region _ ?_ | refine AW.at_draw 1 mixed 0 [[], [0], [0, 1], [0, 1, 2], [], [4], [4, 5], [4, 5, 6], [0, 1, 2, 3], [0, 1, 2, 3, 4, 5, 6, 7, 8]] qR ?_ | refine AW.at_draw 2 mixed 4 [[], [0], [], [2], [], [4], [0, 1, 2, 3, 4, 5], [], [0, 1, 2, 3, 4, 5, 6, 7]] qR ?_)
  all_goals first | (exfalso; omega) | skip
  refine AW.loopP (fun (i : Nat) => i ≤ c.start.length) (fun (i : Nat) => (pu (pu (pu (pu (pu (pu (pu (fun _ => .any) 1 (.ptr 0 0)) 2 (.ptr 1 0)) 3 (i64 p)) 5 (.ptr 5 0)) 24 (.ln (c.start.map tI))) 25 (i64 (c.start.map tI).length)) 26 (i64 i))) (fun (i : Nat) => [.box 24 [i64 c.kind, i64 c.threads, i64 c.chans, i64 c.cap, i64 c.nodes, i64 c.retire, i64 c.patience, i64 c.tags, i64 c.seqs, i64 c.gens, .ln (c.start.map tI)], .box 29 [i64 0, .nl, .nl, .nl], .row 0 66 5 ((stC c.start p i).map tCh), .row 0 43 4 ((List.replicate th (⟨false, 0, 0, []⟩ : DWait)).map tWt), .row 0 50 4 ((List.replicate th (⟨0, 0, 0, 0⟩ : Rst)).map tR), .box 29 [i64 0, .sl 2 0 p, .sl 3 0 th, .sl 4 0 th]]) (fun (i : Nat) => c.start.length - i) (0) ?_ ?_ ?_
  · exact Nat.zero_le _
  · rw [stC_zero, hp]
    exact Wk.cq 6
  · intro i hi
    have hL := stC_len c.start p i
    have hL2 : ((stC c.start p i).map tCh).length = p := by rw [List.length_map, hL]
    by_cases hc1 : i < c.start.length
    · obtain ⟨x, hx⟩ : ∃ x, c.start[i]? = some x := ⟨_, List.getElem?_eq_getElem hc1⟩
      by_cases hip : i < p
      · have hg : (stC c.start p i)[i]? = some ⟨0, 0, false, false, []⟩ := by rw [stC_get _ hip, if_neg (by omega)]
        have hs := stC_next hip hx
        generalize stC c.start p i = L0 at *
        clear hp ht hs0
        repeat' (first | ((with_reducible refine kAL ?_); (first | refine A_mt rfl rfl rfl rfl ?_ | (refine kL 105 rfl ?_; (first | refine A_cmp (d := 27) rfl rfl (c := true) .lss 3 3 _ _ rfl rfl rfl (by exact congrArg some (decide_eq_true (by (try (dsimp only; fail_if_success done)); omega))) ?_ | refine A_cmp (d := 33) rfl rfl (c := true) .lss 3 3 _ _ rfl rfl rfl (by exact congrArg some (decide_eq_true (by (try (dsimp only; fail_if_success done)); omega))) ?_ | refine A_add rfl rfl 3 3 _ _ rfl rfl rfl (by exact wi) ?_)) | (refine kL 710 rfl ?_; refine A_idx rfl rfl 22 _ _ rfl ud22 inf3 (by decide) (by exact .inl rfl) rfl (by omega) _ (by with_reducible exact Int.toNat_natCast _) (by exact map_get (by assumption)) rfl (cs' := [_]) rfl ?_) | refine A_load_lp rfl rfl 3 _ rfl ud3 rfl rfl rfl ?_ | refine A_as rfl rfl rfl rfl ?_ | refine A_field rfl rfl 29 _ 1 rfl ud29 rfl inf25 (by decide) 1 rfl rfl ?_ | refine A_load rfl rfl 25 _ rfl ud25 rfl rfl rfl rfl ?_ | (refine kL 2126 rfl ?_; refine A_build rfl rfl 66 _ rfl ud66 inf66 [(0, 1), (1, 1), (2, 1), (3, 1), (4, 1)] (by kernel_rfl) (zs := [.t (.v (.int .i64 0)), .t (.v (.int .i64 0)), .t (.v (.bool false)), .t (.v (.bool false)), AV.nl]) rfl (.cons rfl (.cons rfl (.cons rfl .nil))) (cs := [_, _, _, _, _]) rfl ?_) | (refine kL 806 rfl ?_; refine A_idx_sl rfl rfl 25 _ _ rfl ud25 inf66 rfl rfl (by (simp; omega)) rfl (by omega) _ (by with_reducible exact Int.toNat_natCast _) (by omega) ?_) | (refine kL 2115 rfl ?_; refine A_store_rp rfl rfl 66 _ _ rfl inf66 (by decide) rfl rfl (by exact map_get (by assumption)) rfl rfl rfl (Nat.le_of_ble_eq_true rfl) (by exact map_set (f := tCh) (x := ⟨1, x, true, false, []⟩)) qN ?_) | refine AL.nil ?_)) | (with_reducible (first | refine wk0 ?_ | refine wk1 ?_ | refine wk2 ?_ | refine wk5 ?_ | refine wkd ?_)) | refine kct rfl ?_ | with_reducible refine AW.at_region _ ?_)
        all_goals first | (exfalso; omega) | skip
        refine ⟨i + 1, by omega, by omega, ?_⟩
        rw [hs]
        exact Wk.cq 6
      · have hs : stC c.start p (i + 1) = stC c.start p i := stC_ge (by omega)
        generalize stC c.start p i = L0 at *
        clear hp ht
        repeat' (first | ((with_reducible refine kAL ?_); (first | refine A_mt rfl rfl rfl rfl ?_ | (refine kL 105 rfl ?_; (first | refine A_cmp (d := 27) rfl rfl (c := true) .lss 3 3 _ _ rfl rfl rfl (by exact congrArg some (decide_eq_true (by (try (dsimp only; fail_if_success done)); omega))) ?_ | refine A_cmp (d := 33) rfl rfl (c := false) .lss 3 3 _ _ rfl rfl rfl (by exact congrArg some (decide_eq_false (by (try (dsimp only; fail_if_success done)); omega))) ?_ | refine A_add rfl rfl 3 3 _ _ rfl rfl rfl (by exact wi) ?_)) | (refine kL 710 rfl ?_; refine A_idx rfl rfl 22 _ _ rfl ud22 inf3 (by decide) (by exact .inl rfl) rfl (by omega) _ (by with_reducible exact Int.toNat_natCast _) (by exact map_get (by assumption)) rfl (cs' := [_]) rfl ?_) | refine A_load_lp rfl rfl 3 _ rfl ud3 rfl rfl rfl ?_ | refine A_as rfl rfl rfl rfl ?_ | refine AL.nil ?_)) | (with_reducible (first | refine wk0 ?_ | refine wk1 ?_ | refine wk2 ?_ | refine wk5 ?_ | refine wkd ?_)) | refine kct rfl ?_ | refine kcf rfl ?_ | with_reducible refine AW.at_region _ ?_)
        all_goals first | (exfalso; omega) | skip
        refine ⟨i + 1, by omega, by omega, ?_⟩
        rw [hs]
        exact Wk.cq 6
    · have e : i = c.start.length := by omega
      subst e
      rw [stC_full]
      repeat' (first | ((with_reducible refine kAL ?_); (first | refine A_cmp (d := 27) rfl rfl (c := false) .lss 3 3 _ _ rfl rfl rfl (by exact congrArg some (decide_eq_false (by (try (dsimp only; fail_if_success done)); omega))) ?_ | refine A_load_agg rfl rfl 29 _ rfl ud29 rfl inf29 rfl rfl (us' := [_, _, _, _]) rfl rfl ?_ | refine A_store rfl rfl 29 _ _ rfl inf29 rfl rfl rfl rfl (Nat.le_of_ble_eq_true rfl) qN qN ?_ | refine AL.nil ?_)) | (with_reducible (first | refine wk0 ?_ | refine wk2 ?_ | refine wk4 ?_ | refine wk7 ?_ | refine wk9 ?_ | refine wkb ?_ | refine wkc ?_)) | refine kcf rfl ?_ | with_reducible refine AW.at_region _ ?_)
      all_goals first | (exfalso; omega) | (exact Fin.q Try.results13 (.cons (.agg rfl rfl ud29 rfl inf29 (us := [_, _, _, _]) rfl rfl) .nil) [2, 3, 4])
end Go.Proofs.Ytphcebioiipdpaa


namespace Go.Proofs.Ytphcebioiipdpaa
set_option linter.unusedVariables false
set_option linter.unusedSimpArgs false
set_option linter.unnecessarySimpa false
open Go.RowKit
set_option maxHeartbeats 32000000
attribute [local irreducible] AL AW RG Fin C Cd Cio thenQ blockQ retQ
set_option maxRecDepth 100000
theorem apF_c (c : DConf) (h : DHall) (t n : Int) (q : DReq) (hq : okQ h q) (hh : okHl h) :
    Cd Try.prog 10 [fCf c, aHl h, i64 t, i64 n, aRq q] (.agg [i64 (applyH c h t n q).ticket, .t (.lst ((applyH c h t n q).chans.map tCh)), .t (.lst ((applyH c h t n q).waits.map tWt)), .t (.lst ((applyH c h t n q).done.map tR))]) [] := by
  have h0 := apply_c c h t n q hq hh
  have e1 := (applyH_len c h t n q).1
  have e2 := (applyH_len c h t n q).2
  generalize applyH c h t n q = g at *
  rw [← e1, ← e2] at h0
  have h0' := Cd.frz1 h0 0 rfl (by repeat' (first | exact FzL.nil | apply FzL.cons | exact FzR.nlt | exact FzR.all (by first | rfl | (simp <;> fail) | (simp; omega)) | exact FzR.sl (by first | exact Nat.le_refl _ | (simp <;> fail) | (simp; omega)) | apply FzR.aggL | exact FzR.same _)) rfl; have h0'' := Cd.frz1 h0' 1 rfl (by repeat' (first | exact FzL.nil | apply FzL.cons | exact FzR.nlt | exact FzR.all (by first | rfl | (simp <;> fail) | (simp; omega)) | exact FzR.sl (by first | exact Nat.le_refl _ | (simp <;> fail) | (simp; omega)) | apply FzR.aggL | exact FzR.same _)) rfl; exact Cd.drop h0'' rfl
theorem okHl_of {h : DHall} (h1 : h.chans.length ≤ 3 ∧ h.waits.length ≤ 5 ∧ h.done.length ≤ 5) (h2 : h.chans.all (fun x => decide (x.buf.length ≤ 100)) = true) (h3 : h.waits.all (fun w => decide (w.cases.length ≤ 3)) = true) : okHl h :=
  ⟨by omega, fun x hx => by have := of_decide_eq_true (List.all_eq_true.1 h2 x hx); omega, ⟨by omega, fun w hw => by have := of_decide_eq_true (List.all_eq_true.1 h3 w hw); omega⟩, by omega⟩
def okQb (h : DHall) (q : DReq) : Bool := decide (-1000 ≤ q.arg ∧ q.arg ≤ 1000) && decide (-1000 ≤ q.value ∧ q.value ≤ 1000) && q.cases.all (fun x => decide (-1000 ≤ x.dir ∧ x.dir ≤ 1000 ∧ -1000 ≤ x.handle ∧ x.handle ≤ 1000 ∧ -1000 ≤ x.value ∧ x.value ≤ 1000)) && decide (q.cases.length ≤ 3) && decide (-1000 ≤ h.ticket) && h.chans.all (fun x => decide (-1000 ≤ x.gen ∧ x.gen ≤ 1000))
theorem okQ_of {h : DHall} {q : DReq} (hb : okQb h q = true) : okQ h q := by
  unfold okQb at hb
  simp only [Bool.and_eq_true, decide_eq_true_eq, List.all_eq_true] at hb
  obtain ⟨⟨⟨⟨⟨h1, h2⟩, h3⟩, h4⟩, h5⟩, h6⟩ := hb
  exact ⟨by unfold sI; omega, by unfold sI; omega, fun x hx => by have := h3 x hx; unfold sCs sI; omega, by omega, by omega, fun x hx => by have := h6 x hx; unfold sI; omega⟩
theorem stF_c (c : DConf) (hs : c.start.length ≤ 1152921504606846976) : Cd Try.prog 13 [aCf c] (.agg [i64 (startH c).ticket, .t (.lst ((startH c).chans.map tCh)), .t (.lst ((startH c).waits.map tWt)), .t (.lst ((startH c).done.map tR))]) [] := by
  have h0 := hstart_c c hs
  have l := startH_ln c
  have e1 := l.c
  have e2 := l.w
  have e3 := l.d
  have hh : Cd Try.prog 13 [aCf c] (.agg [i64 (startH c).ticket, .sl 0 0 (startH c).chans.length, .sl 1 0 (startH c).waits.length, .sl 2 0 (startH c).done.length]) [.row 0 66 5 ((startH c).chans.map tCh), .row 0 43 4 ((startH c).waits.map tWt), .row 0 50 4 ((startH c).done.map tR)] := by rw [e1, e2, e3]; exact h0
  generalize startH c = g at *
  have hh' := Cd.frz1 hh 0 rfl (by repeat' (first | exact FzL.nil | apply FzL.cons | exact FzR.nlt | exact FzR.all (by first | rfl | (simp <;> fail) | (simp; omega)) | exact FzR.sl (by first | exact Nat.le_refl _ | (simp <;> fail) | (simp; omega)) | apply FzR.aggL | exact FzR.same _)) rfl; have hh'' := Cd.frz1 hh' 1 rfl (by repeat' (first | exact FzL.nil | apply FzL.cons | exact FzR.nlt | exact FzR.all (by first | rfl | (simp <;> fail) | (simp; omega)) | exact FzR.sl (by first | exact Nat.le_refl _ | (simp <;> fail) | (simp; omega)) | apply FzR.aggL | exact FzR.same _)) rfl; have hh''' := Cd.frz1 hh'' 2 rfl (by repeat' (first | exact FzL.nil | apply FzL.cons | exact FzR.nlt | exact FzR.all (by first | rfl | (simp <;> fail) | (simp; omega)) | exact FzR.sl (by first | exact Nat.le_refl _ | (simp <;> fail) | (simp; omega)) | apply FzR.aggL | exact FzR.same _)) rfl; exact Cd.drop hh''' rfl
end Go.Proofs.Ytphcebioiipdpaa


namespace Go.Proofs.Ytphcebioiipdpaa
set_option linter.unusedVariables false
set_option linter.unusedSimpArgs false
set_option linter.unnecessarySimpa false
open Go.RowKit Go.ChangeShapes Go.WideShapes
def tMw (x : DMove) : List Tr := tI x.thread ++ tRq x.req
def sMw (x : DMove) : Prop := sI x.thread ∧ sRq x.req
def bMw (x : DMove) : Nat := b1 x.thread + bRq x.req
theorem o_Mw {H : Type} {enc : TypeId × Value → H} {W : World} : Opens enc Try.prog W 59 tMw sMw bMw := by
  refine Opens.map (Opens.struct (n := 6) Try.underlying59 (by kernel_rfl) (fun _ => rfl) (OpensF.cons (s := 1) rfl rfl (by kernel_rfl) (fun _ => rfl) o_int (OpensF.cons (s := 5) rfl rfl (by kernel_rfl) (fun _ => rfl) o_Rq OpensF.nil))) (fun (p : Int × DReq × Unit) => ⟨p.1, p.2.1⟩) (fun p => ?_) (fun p h => ?_) (fun p => ?_)
  · simp [tMw, List.append_nil, tI, tL, tRq]
  · obtain ⟨h0, h1, _⟩ := h; exact ⟨h0, h1⟩
  · exact Nat.le_of_eq (by simp only [bMw, Nat.add_assoc, Nat.add_zero])
theorem o_Mws {H : Type} {enc : TypeId × Value → H} {W : World} : Opens enc Try.prog W 56 (tL tMw) (sL sMw 64) (bL bMw) := Opens.slice (s := 6) Try.underlying56 (by kernel_rfl) (by kernel_rfl) (fun _ => rfl) o_Mw
end Go.Proofs.Ytphcebioiipdpaa


namespace Go.Proofs.Ytphcebioiipdpaa
set_option linter.unusedVariables false
set_option linter.unusedSimpArgs false
set_option linter.unnecessarySimpa false
open Go.RowKit
set_option maxHeartbeats 32000000
attribute [local irreducible] AL AW RG Fin C Cd Cio thenQ blockQ retQ
set_option maxRecDepth 100000
def c35 (n : Int) : DConf := ⟨3, n, 3, 2, 4, 1, 0, 9, 99, 3, [0, 1]⟩
theorem small35_c (n : Int) : Cd Try.prog 26 [i64 n] (fCf (c35 n)) [] := by
  dsimp only [fCf, c35]
  refine Cd.enter' Try.func26 rfl Try.ntmps26 rfl ?_
  repeat' (first | ((with_reducible refine kAL ?_); (first | (refine kL 719 rfl ?_; (refine A_lit (d := 4) rfl rfl 22 2 _ rfl ud22 inf3 (.cons rfl (.cons rfl .nil)) (els := [[_], [_]]) rfl (by ((try simp only [List.take_zero, List.take_succ_cons, List.drop_zero, List.drop_succ_cons, List.nil_append, List.cons_append, List.append_nil, List.length_cons, List.length_nil, List.set_cons_zero, List.set_cons_succ, List.map_cons, List.map_nil, List.take_nil, List.drop_nil, Nat.zero_add, Nat.add_zero, Nat.reduceAdd, Nat.reduceSub]); rfl)) rfl (Nat.ne_of_beq_eq_false rfl) (Nat.le_of_ble_eq_true rfl) (Nat.le_of_ble_eq_true rfl) (.push qL qN) ?_; (try refine AL.wk (Wk.freeze 1 rfl 4 rfl (by exact .all (by rfl)) qN) ?_))) | refine A_alloc rfl rfl 24 rfl inf24 (cs := [.t (.v (.int .i64 0)), .t (.v (.int .i64 0)), .t (.v (.int .i64 0)), .t (.v (.int .i64 0)), .t (.v (.int .i64 0)), .t (.v (.int .i64 0)), .t (.v (.int .i64 0)), .t (.v (.int .i64 0)), .t (.v (.int .i64 0)), .t (.v (.int .i64 0)), AV.nl]) rfl (.push qL qN) ?_ | refine A_mt rfl rfl rfl rfl ?_ | (refine kL 782 rfl ?_; refine A_build rfl rfl 24 _ rfl ud24 inf24 [(0, 1), (1, 1), (2, 1), (3, 1), (4, 1), (5, 1), (6, 1), (7, 1), (8, 1), (9, 1), (10, 1)] (by kernel_rfl) (zs := [.t (.v (.int .i64 0)), .t (.v (.int .i64 0)), .t (.v (.int .i64 0)), .t (.v (.int .i64 0)), .t (.v (.int .i64 0)), .t (.v (.int .i64 0)), .t (.v (.int .i64 0)), .t (.v (.int .i64 0)), .t (.v (.int .i64 0)), .t (.v (.int .i64 0)), AV.nl]) rfl (.cons rfl (.cons rfl (.cons rfl (.cons rfl (.cons rfl (.cons rfl (.cons rfl (.cons rfl (.cons rfl (.cons rfl .nil)))))))))) (cs := [_, _, _, _, _, _, _, _, _, _, _]) rfl ?_) | refine A_store rfl rfl 24 _ _ rfl inf24 rfl rfl rfl rfl (Nat.le_of_ble_eq_true rfl) qN qN ?_ | refine AL.nil ?_)) | with_reducible refine AW.at_region _ ?_ | (with_reducible (first | refine wk0 ?_ | refine wk2 ?_ | refine wk9 ?_ | refine wkb ?_)))
  all_goals first | (exfalso; omega) | (exact Fin.q Try.results26 (.cons (.agg rfl rfl ud24 rfl inf24 (us := [_, _, _, _, _, _, _, _, _, _, _]) rfl rfl) .nil) [])
theorem startH_sn (c : DConf) (hs : ∀ x ∈ c.start, 0 ≤ x) : Sn (startH c) := by
  have off : ∀ w ∈ (startH c).waits, w = ⟨false, 0, 0, []⟩ := fun w hw => List.eq_of_mem_replicate hw
  have offg : ∀ (t : Nat) w, (startH c).waits[t]? = some w → w.on = false := fun t w hw => by rw [off w (List.mem_of_getElem? hw)]
  refine ⟨fun w hw k hk => ?_, fun w hw k hk => ?_, fun w hw ho => ?_, fun i j w w' hi _ ho _ _ => ?_, ⟨?_, fun t w r hw hr => ?_⟩, fun t w hw ho => ?_, fun x hx => ?_⟩
  · rw [off w hw] at hk; cases hk
  · rw [off w hw] at hk; cases hk
  · rw [off w hw] at ho; cases ho
  · rw [offg i w hi] at ho; cases ho
  · show (List.replicate _ _).length = (List.replicate _ _).length
    rw [List.length_replicate, List.length_replicate]
  · have h1 := offg t w hw
    have h2 : r = ⟨0, 0, 0, 0⟩ := List.eq_of_mem_replicate (List.mem_of_getElem? hr)
    rw [h1, h2]
    exact ⟨⟨fun e => (by cases e), fun e => absurd e (by decide)⟩, fun e => (by cases e)⟩
  · rw [offg t w hw] at ho; cases ho
  · have hx' : x ∈ stC c.start (plN c) (plN c) := hx
    unfold stC at hx'
    obtain ⟨j, -, rfl⟩ := List.mem_map.1 hx'
    split
    · rename_i hj
      have := hs _ (getD_mem (d := (0 : Int)) hj.2)
      exact ⟨by dsimp only [List.length_nil]; exact this, fun e => (by cases e), by dsimp only; decide, fun _ => by dsimp only; decide⟩
    · exact ⟨by decide, fun _ => ⟨rfl, rfl⟩, by decide, fun e => (by cases e)⟩
theorem mayGo_y {h : DHall} {j : Nat} {w : DWait} (hw : h.waits[j]? = some w) : mayGo h j = !w.on := by
  have := get_lt hw
  unfold mayGo; rw [Int.toNat_natCast, getD_of hw, decide_eq_true (by omega)]; simp
theorem mayGo_on {h : DHall} {t : Int} (e : mayGo h t = true) : ∃ (j : Nat) (w : DWait), t = j ∧ j < h.waits.length ∧ h.waits[j]? = some w ∧ w.on = false := by
  unfold mayGo at e
  simp only [Bool.and_eq_true, decide_eq_true_eq, Bool.not_eq_true'] at e
  obtain ⟨⟨h1, h2⟩, h3⟩ := e
  obtain ⟨j, rfl⟩ : ∃ j : Nat, t = j := ⟨t.toNat, by omega⟩
  obtain ⟨w, hw⟩ : ∃ w, h.waits[j]? = some w := ⟨_, List.getElem?_eq_getElem (by omega)⟩
  rw [Int.toNat_natCast, getD_of hw] at h3
  exact ⟨j, w, rfl, by omega, hw, h3⟩
theorem runH_sn (c : DConf) (hs : ∀ x ∈ c.start, 0 ≤ x) (l : List DMove) : ∀ k, Sn (runH c l k)
  | 0 => startH_sn c hs
  | k + 1 => by
    have s := runH_sn c hs l k
    obtain ⟨b, -⟩ := runH_bd c l k
    unfold runH
    split
    · rename_i e
      obtain ⟨j, w, ht, hj, hw, ho⟩ := mayGo_on e
      rw [ht]
      exact s.apply b.w b.tk.1 hj hw ho _ _
    · exact s
def h35 : DHall := ⟨0, [⟨1, 0, true, false, []⟩, ⟨1, 1, true, false, []⟩, ⟨0, 0, false, false, []⟩], [⟨false, 0, 0, []⟩, ⟨false, 0, 0, []⟩], [⟨0, 0, 0, 0⟩, ⟨0, 0, 0, 0⟩]⟩
def g35 : DHall := ⟨1, [⟨1, 0, true, false, []⟩, ⟨1, 1, true, false, []⟩, ⟨0, 0, false, false, []⟩], [⟨true, 0, 1, [⟨1, 8, 5⟩]⟩, ⟨false, 0, 0, []⟩], [⟨1, 0, 14, 0⟩, ⟨0, 0, 0, 0⟩]⟩
theorem st35 : startH (c35 2) = h35 := by decide +kernel
theorem ap35 : applyH (c35 2) h35 0 1 ⟨3, 0, 0, false, [⟨1, 8, 5⟩]⟩ = g35 := by decide +kernel
theorem on35 : onS g35.waits 8 = [0] := by decide +kernel
theorem op35 : openK h35.chans h35.chans.length = [8, 9] := by decide +kernel
theorem sn35 : Sn g35 := by
  have h0 := startH_sn (c35 2) (by decide)
  have b0 := startH_bd (c35 2)
  rw [st35] at h0 b0
  have := h0.apply (c := c35 2) b0.w b0.tk.1 (j := 0) (by decide) (w := ⟨false, 0, 0, []⟩) rfl rfl 1 ⟨3, 0, 0, false, [⟨1, 8, 5⟩]⟩
  rw [show ((0 : Nat) : Int) = 0 from rfl, ap35] at this
  exact this
def g35c : DHall := ⟨1, g35.chans.set 0 ⟨1, 0, true, true, []⟩, g35.waits, g35.done⟩
set_option maxHeartbeats 16000000 in
theorem awake35_c : Cd Try.prog 25 [] (bo true) [] := by
  have cm := small35_c 2
  have cS := stF_c (c35 2) (by decide)
  rw [st35] at cS
  have k0 : okHl g35 := okHl_of (by decide) (by decide) (by decide)
  have k1 : okHl g35c := okHl_of (by decide) (by decide) (by decide)
  have c1 := apply_c (c35 2) h35 0 1 ⟨3, 0, 0, false, [⟨1, 8, 5⟩]⟩ (okQ_of (by decide +kernel)) (okHl_of (by decide) (by decide) (by decide))
  rw [ap35] at c1
  have cL := load_c g35 k0 (by decide)
  rw [show ((moreN g35.waits g35.waits.length : Nat) : Int) = 1 from by decide +kernel] at cL
  have cW := wrong_c g35 k0 sn35
  have cN := wrongN_c g35c k1 (by decide +kernel) (by decide +kernel) sn35.tn sn35.dn (w := ⟨true, 0, 1, [⟨1, 8, 5⟩]⟩) rfl rfl (by decide) (by decide +kernel)
  have cT := waiting_c g35 k0 8 1 (by rw [on35]; intro z hz; rw [List.mem_singleton] at hz; subst hz; exact ⟨0, _, rfl, rfl, by decide⟩)
  rw [on35] at cT
  have cO := opens_c h35 (by decide)
  rw [op35] at cO
  have i1 := ints_c [0] [0] (by decide)
  have i2 := ints_c [8, 9] [8, 9] (by decide)
  rw [decide_eq_true rfl] at i1 i2
  have d1 : (g35.waits.map tWt).length = 2 := rfl
  have d2 : (g35.chans.map tCh).length = 3 := rfl
  have d3 : (g35.done.map tR).length = 2 := rfl
  have d5 : g35.chans.length = 3 := rfl
  have d6 : g35.done.length = 2 := rfl
  have d7 : (g35.chans.set 0 ⟨1, 0, true, true, []⟩).length = 3 := rfl
  have d4 : ((g35.chans.set 0 ⟨1, 0, true, true, []⟩).map tCh).length = 3 := rfl
  have l1 : h35.chans.length = 3 := rfl
  have l2 : h35.done.length = 2 := rfl
  have x1 : g35.chans[0]? = some ⟨1, 0, true, false, []⟩ := rfl
  have t1 : h35.ticket = 0 := rfl
  have t2 : g35.ticket = 1 := rfl
  dsimp only [fCf, c35, aHl, aRq, g35c] at cm cS c1 cL cW cN cT cO
  rw [t1] at cS cO
  rw [t1, t2, l1, l2] at c1
  rw [t2] at cL cW cT
  generalize h35.chans = q1 at *
  generalize h35.waits = q2 at *
  generalize h35.done = q3 at *
  generalize g35.chans = q4 at *
  generalize g35.waits = q5 at *
  generalize g35.done = q6 at *
  refine Cd.enter' Try.func25 rfl Try.ntmps25 rfl ?_
  repeat' (first | ((with_reducible refine kAL ?_); (first | refine A_as rfl rfl rfl rfl ?_ | (refine kL 842 rfl ?_; refine A_cl rfl rfl Try.func26 rfl (cm) ?_) | (refine kL 426 rfl ?_; refine A_cl rfl rfl Try.func13 rfl (cS) ?_) | refine A_alloc rfl rfl 29 rfl inf29 (cs := [.t (.v (.int .i64 0)), AV.nl, AV.nl, AV.nl]) rfl (.push qL qN) ?_ | refine A_store rfl rfl 29 _ _ rfl inf29 rfl rfl rfl rfl (Nat.le_of_ble_eq_true rfl) qN qN ?_ | refine A_load_agg rfl rfl 29 _ rfl ud29 rfl inf29 rfl rfl (us' := [_, _, _, _]) rfl rfl ?_ | (refine kL 1706 rfl ?_; refine A_cl rfl rfl Try.func53 rfl (cL) ?_) | (refine kL 0 rfl ?_; (first | refine A_mt rfl rfl rfl rfl ?_ | refine A_move rfl rfl _ (.inl rfl) (y := .tup _) rfl ?_)) | (refine kL 18 rfl ?_; (first | refine A_extract rfl rfl _ 0 rfl rfl rfl ?_ | refine A_extract rfl rfl _ 1 rfl rfl rfl ?_)) | (refine kL 932 rfl ?_; (first | refine A_field rfl rfl 29 _ 2 rfl ud29 rfl inf26 (by decide) 2 rfl rfl ?_ | refine A_field rfl rfl 29 _ 1 rfl ud29 rfl inf25 (by decide) 1 rfl rfl ?_)) | refine A_load rfl rfl 26 _ rfl ud26 rfl rfl rfl rfl ?_ | refine A_len rfl rfl 26 _ rfl ud26 rfl ?_ | (refine kL 105 rfl ?_; (first | refine A_cmp (d := 21) rfl rfl (c := false) .neq 3 3 _ _ rfl rfl rfl (by exact congrArg some (decide_eq_false (by (try (dsimp only; fail_if_success done)); omega))) ?_ | refine A_cmp (d := 25) rfl rfl (c := false) .neq 3 3 _ _ rfl rfl rfl (by exact congrArg some (decide_eq_false (by (try (dsimp only; fail_if_success done)); omega))) ?_ | refine A_cmp (d := 36) rfl rfl (c := false) .neq 3 3 _ _ rfl rfl rfl (by exact congrArg some (decide_eq_false (by (try (dsimp only; fail_if_success done)); omega))) ?_ | refine A_cmp (d := 40) rfl rfl (c := false) .neq 3 3 _ _ rfl rfl rfl (by exact congrArg some (decide_eq_false (by (try (dsimp only; fail_if_success done)); omega))) ?_ | refine A_cmp (d := 48) rfl rfl (c := true) .eql 3 3 _ _ rfl rfl rfl (by exact congrArg some (decide_eq_true (by (try (dsimp only; fail_if_success done)); omega))) ?_)) | (refine kL 874 rfl ?_; (first | refine A_cl rfl rfl Try.func27 rfl (cW) ?_ | refine A_cl rfl rfl Try.func27 rfl (cN) ?_)) | (refine kL 19 rfl ?_; (first | refine A_pkt rfl rfl _ _ _ rfl rfl rfl ?_ | refine A_pkf rfl rfl _ _ _ rfl rfl rfl ?_)) | (refine kL 1738 rfl ?_; refine A_cl rfl rfl Try.func54 rfl (cT) ?_) | (refine kL 719 rfl ?_; (first | refine A_lit rfl rfl 22 1 _ rfl ud22 inf3 (.cons rfl .nil) (els := [[_]]) rfl (by first | exact (rfl : _ = List.map tI [_]) | ((try simp only [List.take_zero, List.take_succ_cons, List.drop_zero, List.drop_succ_cons, List.nil_append, List.cons_append, List.append_nil, List.length_cons, List.length_nil, List.set_cons_zero, List.set_cons_succ, List.map_cons, List.map_nil, List.take_nil, List.drop_nil, Nat.zero_add, Nat.add_zero, Nat.reduceAdd, Nat.reduceSub]); rfl)) rfl (Nat.ne_of_beq_eq_false rfl) (Nat.le_of_ble_eq_true rfl) (Nat.le_of_ble_eq_true rfl) (.push qL qN) ?_ | refine A_lit rfl rfl 22 2 _ rfl ud22 inf3 (.cons rfl (.cons rfl .nil)) (els := [[_], [_]]) rfl (by ((try simp only [List.take_zero, List.take_succ_cons, List.drop_zero, List.drop_succ_cons, List.nil_append, List.cons_append, List.append_nil, List.length_cons, List.length_nil, List.set_cons_zero, List.set_cons_succ, List.map_cons, List.map_nil, List.take_nil, List.drop_nil, Nat.zero_add, Nat.add_zero, Nat.reduceAdd, Nat.reduceSub]); rfl)) rfl (Nat.ne_of_beq_eq_false rfl) (Nat.le_of_ble_eq_true rfl) (Nat.le_of_ble_eq_true rfl) (.push qL qN) ?_)) | (refine kL 682 rfl ?_; (first | refine A_cl rfl rfl Try.func21 rfl (i1) ?_ | refine A_cl rfl rfl Try.func21 rfl (i2) ?_)) | refine A_not rfl rfl _ _ rfl rfl ?_ | refine A_load rfl rfl 25 _ rfl ud25 rfl rfl rfl rfl ?_ | (refine kL 806 rfl ?_; refine A_idx_sl rfl rfl 25 _ _ rfl ud25 inf66 rfl rfl (by (simp; omega)) rfl (by omega) _ (rfl : Int.toNat 0 = 0) (by omega) ?_) | refine A_field rfl rfl 66 _ 3 rfl ud66 rfl inf4 (by decide) 3 rfl rfl ?_ | (refine kL 131 rfl ?_; refine A_store_rp rfl rfl 4 _ _ rfl inf4 (by decide) rfl rfl (by exact map_get (by assumption)) rfl rfl rfl (Nat.le_of_ble_eq_true rfl) (by exact map_set (f := tCh) (x := ⟨1, 0, true, true, []⟩)) qN ?_) | (refine kL 1770 rfl ?_; refine A_cl rfl rfl Try.func55 rfl (cO) ?_) | refine AL.nil ?_)) | ((with_reducible refine kRG ?_); (first | (refine kR 842 rfl ?_; (refine R_cl rfl rfl Try.func26 rfl (cm) ?_; refine ⟨0, _, _, _, rfl, qU, qU, qZ, ?_⟩)) | refine R_load_agg rfl rfl 29 _ rfl ud29 rfl inf29 rfl rfl (us' := [_, _, _, _]) rfl rfl ?_ | (refine kR 1454 rfl ?_; refine R_build rfl rfl 45 _ rfl ud45 inf45 [(0, 1), (1, 1), (2, 1)] (by kernel_rfl) (zs := [.t (.v (.int .i64 0)), .t (.v (.int .i64 0)), .t (.v (.int .i64 0))]) rfl (.cons rfl (.cons rfl (.cons rfl .nil))) (cs := [_, _, _]) rfl ?_) | (refine kR 975 rfl ?_; refine R_lit (N := 1) rfl rfl 30 1 _ rfl ud30 inf45 (.cons rfl .nil) (els := [[_, _, _]]) rfl (by exact (rfl : _ = List.map tCs [⟨_, _, _⟩])) rfl (Nat.ne_of_beq_eq_false rfl) (Nat.le_of_ble_eq_true rfl) (Nat.le_of_ble_eq_true rfl) rfl qN ?_) | (refine kR 1038 rfl ?_; refine R_build rfl rfl 32 _ rfl ud32 inf32 [(0, 1), (1, 1), (2, 1), (3, 1), (4, 1)] (by kernel_rfl) (zs := [.t (.v (.int .i64 0)), .t (.v (.int .i64 0)), .t (.v (.int .i64 0)), .t (.v (.bool false)), AV.nl]) rfl (.cons rfl (.cons rfl .nil)) (cs := [_, _, _, _, _]) rfl ?_) | (refine kR 330 rfl ?_; (refine R_cl rfl rfl Try.func10 rfl (c1) ?_; refine ⟨2, _, _, _, rfl, qU, qU, qZ, ?_⟩)) | refine R_alloc (N := 4) rfl rfl 29 rfl inf29 (cs := [.t (.v (.int .i64 0)), AV.nl, AV.nl, AV.nl]) rfl rfl qN ?_ | refine R_store rfl rfl 29 _ _ rfl inf29 rfl rfl rfl rfl (Nat.le_of_ble_eq_true rfl) qN qN ?_ | refine RG.nil ⟨by kernel_rfl, ?_⟩)) | (with_reducible (first | refine wk0 ?_ | refine wk2 ?_ | refine wk9 ?_ | refine wkb ?_ | refine wkd ?_)) | refine kcf rfl ?_ | with_reducible refine AW.at_region _ ?_ | refine AW.at_draw 2 mixed 6 [[], [], [], [2], [2, 3], [0, 1, 2, 3, 4], [], [0, 1, 2, 3, 4, 5, 6]] qR ?_)
  all_goals first | (exfalso; omega) | (exact Fin.q Try.results25 (.cons (.tmp rfl) .nil) [])
theorem c35_n {n : Nat} (h1 : 1 ≤ n) (h5 : n ≤ 5) : plN (c35 n) = 3 ∧ thN (c35 n) = n := by unfold plN thN c35; dsimp only; omega
end Go.Proofs.Ytphcebioiipdpaa

