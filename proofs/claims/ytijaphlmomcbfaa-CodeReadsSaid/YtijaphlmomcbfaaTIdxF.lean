/- slices.IndexFunc, slices.ContainsFunc: rows of numbers, of results, of channels, of calls that wait. -/
import Derived.Test.YtijaphlmomcbfaaTWaitP
import Derived.Test.YtijaphlmomcbfaaLC
namespace Go.Proofs.Ytijaphlmomcbfaa
set_option linter.unusedVariables false
set_option linter.unusedSimpArgs false
set_option linter.unnecessarySimpa false
open Go.RowKit
set_option maxHeartbeats 32000000
attribute [local irreducible] AL AW RG Fin C Cd Cio thenQ blockQ retQ
set_option maxRecDepth 100000
theorem ixF_any {α : Type} (p : α → Bool) (l : List α) : decide (0 ≤ ixF p l) = l.any p := by
  cases h : l.any p
  · refine decide_eq_false fun h2 => ?_
    obtain ⟨a, ha, hp⟩ := ixF_get p l h2
    rw [List.any_eq_false] at h
    exact h a (List.mem_of_getElem? ha) hp
  · obtain ⟨a, ha, hp⟩ := List.any_eq_true.1 h
    obtain ⟨q, hq⟩ := List.getElem?_of_mem ha
    exact decide_eq_true (ixF_yes p hq hp)
set_option maxHeartbeats 8000000 in
theorem idxFI_c (f : FuncId) (fi cap : List AV) (p : Int → Bool) (l : List Int) (hg : ∀ c ∈ l, CV Try.prog (.fn (.func f) fi cap) [i64 c] (.t (.v (.bool (p c)))) []) (hup : upB (keepG 0) (.fn (.func f) fi cap) = .fn (.func f) fi cap)
    (hl : l.length ≤ 1152921504606846976) : Cd Try.prog 163 [.ln (l.map tI), .fn (.func f) fi cap] (i64 (ixF p l)) [] := by
  have h1 : (l.map tI).length = l.length := List.length_map _
  refine Cd.enter' Try.func163 rfl Try.ntmps163 rfl ?_
  repeat' (first | ((with_reducible refine kAL ?_); (first | refine A_as rfl rfl rfl rfl ?_ | (refine kL 0 rfl ?_; (first | refine A_mt rfl rfl rfl rfl ?_ | refine A_move rfl rfl _ (.inl rfl) (y := .ln _) rfl ?_)) | refine A_len rfl rfl 22 _ rfl ud22 rfl ?_ | refine AL.nil ?_)) | with_reducible refine AW.at_region _ ?_ | (with_reducible (first | refine wk0 ?_ | refine wk1 ?_ | refine wk2 ?_)))
  refine AW.loopP (fun (q : Nat) => q ≤ l.length ∧ ∀ j, j < q → ∀ b, l[j]? = some b → p b = false) (fun (q : Nat) => (pu (pu (pu (pu (fun _ => .any) 0 (.ln (l.map tI))) 1 (.fn (.func f) fi cap)) 7 (i64 (l.map tI).length)) 8 (i64 q))) (fun (q : Nat) => []) (fun (q : Nat) => l.length - q) (0) ?_ ?_ ?_
  · exact ⟨Nat.zero_le _, fun j hj => by omega⟩
  · exact Wk.cq 0
  · rintro q ⟨h2, h3⟩
    by_cases hq : q < l.length
    · obtain ⟨a, ha⟩ : ∃ a, l[q]? = some a := ⟨_, List.getElem?_eq_getElem hq⟩
      have c1 := hg a (List.mem_of_getElem? ha)
      cases hp : p a
      · rw [hp] at c1
        repeat' (first | ((with_reducible refine kAL ?_); (first | refine A_as rfl rfl rfl rfl ?_ | (refine kL 0 rfl ?_; (first | refine A_mt rfl rfl rfl rfl ?_ | refine A_move rfl rfl _ (.inl rfl) (y := .ln _) rfl ?_ | refine A_move rfl rfl _ (.inl rfl) (y := .fn _ _ _) rfl ?_)) | (refine kL 105 rfl ?_; (first | refine A_cmp (d := 9) rfl rfl (c := true) .lss 3 3 _ _ rfl rfl rfl (by exact congrArg some (decide_eq_true (by (try (dsimp only; fail_if_success done)); omega))) ?_ | refine A_add rfl rfl 3 3 _ _ rfl rfl rfl (by exact wi) ?_)) | (refine kL 710 rfl ?_; refine A_idx rfl rfl 22 _ _ rfl ud22 inf3 (by decide) (by exact .inl rfl) rfl (by omega) _ (by with_reducible exact Int.toNat_natCast _) (by exact map_get (by assumption)) rfl (cs' := [_]) rfl ?_) | refine A_load_lp rfl rfl 3 _ rfl ud3 rfl rfl rfl ?_ | (refine kL 11 rfl ?_; refine A_callv rfl rfl rfl rfl (c1) (by ((repeat (first | exact .nil | refine .cons ?_ ?_ | exact .t _)); (first | done | fail))) qL qU qU qN ?_) | refine AL.nil ?_)) | with_reducible refine AW.at_region _ ?_ | (with_reducible (first | refine wk0 ?_ | refine wk1 ?_ | refine wk2 ?_ | refine wk5 ?_ | refine wkd ?_)) | refine kct rfl ?_ | refine kcf rfl ?_)
        all_goals first | (exfalso; omega) | skip
        refine ⟨q + 1, ⟨by omega, fun j hj b hb => ?_⟩, by omega, ?_⟩
        · by_cases e : j = q
          · subst e; rw [ha] at hb; cases hb; exact hp
          · exact h3 j (by omega) b hb
        · exact Wk.cq 0
      · rw [hp] at c1
        rw [ixF_at p l q a h3 ha hp]
        repeat' (first | ((with_reducible refine kAL ?_); (first | refine A_as rfl rfl rfl rfl ?_ | (refine kL 0 rfl ?_; (first | refine A_mt rfl rfl rfl rfl ?_ | refine A_move rfl rfl _ (.inl rfl) (y := .ln _) rfl ?_ | refine A_move rfl rfl _ (.inl rfl) (y := .fn _ _ _) rfl ?_)) | refine A_cmp (d := 9) rfl rfl (c := true) .lss 3 3 _ _ rfl rfl rfl (by exact congrArg some (decide_eq_true (by (try (dsimp only; fail_if_success done)); omega))) ?_ | (refine kL 710 rfl ?_; refine A_idx rfl rfl 22 _ _ rfl ud22 inf3 (by decide) (by exact .inl rfl) rfl (by omega) _ (by with_reducible exact Int.toNat_natCast _) (by exact map_get (by assumption)) rfl (cs' := [_]) rfl ?_) | refine A_load_lp rfl rfl 3 _ rfl ud3 rfl rfl rfl ?_ | (refine kL 11 rfl ?_; refine A_callv rfl rfl rfl rfl (c1) (by ((repeat (first | exact .nil | refine .cons ?_ ?_ | exact .t _)); (first | done | fail))) qL qU qU qN ?_) | refine AL.nil ?_)) | with_reducible refine AW.at_region _ ?_ | (with_reducible (first | refine wk0 ?_ | refine wk1 ?_ | refine wk2 ?_ | refine wk3 ?_ | refine wk6 ?_ | refine wk9 ?_ | refine wkb ?_ | refine wkd ?_)) | refine kct rfl ?_)
        all_goals first | (exfalso; omega) | (exact Fin.q Try.results163 (.cons (.tmp rfl) .nil) [])
    · rw [ixF_none p l fun j b hb => h3 j (by have := get_lt hb; omega) b hb]
      repeat' (first | ((with_reducible refine kAL ?_); (first | refine A_as rfl rfl rfl rfl ?_ | refine A_cmp (d := 9) rfl rfl (c := false) .lss 3 3 _ _ rfl rfl rfl (by exact congrArg some (decide_eq_false (by (try (dsimp only; fail_if_success done)); omega))) ?_ | refine AL.nil ?_)) | with_reducible refine AW.at_region _ ?_ | (with_reducible (first | refine wk0 ?_ | refine wk2 ?_ | refine wk4 ?_ | refine wk7 ?_ | refine wk9 ?_ | refine wkb ?_ | refine wkc ?_)) | refine kcf rfl ?_)
      all_goals first | (exfalso; omega) | (exact Fin.q Try.results163 (.cons (.tmp rfl) .nil) [])
theorem conFI_c (f : FuncId) (fi cap : List AV) (p : Int → Bool) (l : List Int) (hg : ∀ c ∈ l, CV Try.prog (.fn (.func f) fi cap) [i64 c] (.t (.v (.bool (p c)))) []) (hup : upB (keepG 0) (.fn (.func f) fi cap) = .fn (.func f) fi cap) (hps : ∀ heap sel, Pass heap sel (.fn (.func f) fi cap) (.fn (.func f) fi cap))
    (hl : l.length ≤ 1152921504606846976) : Cd Try.prog 139 [.ln (l.map tI), .fn (.func f) fi cap] (bo (l.any p)) [] := by
  have c1 := idxFI_c f fi cap p l hg hup hl
  rw [← ixF_any]
  refine Cd.enter' Try.func139 rfl Try.ntmps139 rfl ?_
  by_cases h : 0 ≤ ixF p l
  · rw [decide_eq_true h]
    repeat' (first | ((with_reducible refine kAL ?_); (first | refine A_as rfl rfl rfl rfl ?_ | (refine kL 0 rfl ?_; (first | refine A_move rfl rfl _ (.inl rfl) (y := .ln _) rfl ?_ | refine A_move rfl rfl _ (.inl rfl) (y := .fn _ _ _) rfl ?_)) | (refine kL 5226 rfl ?_; refine A_cl rfl rfl Try.func163 rfl (c1) ?_) | refine A_cmp (d := 8) rfl rfl (c := true) .geq 3 3 _ _ rfl rfl rfl (by exact congrArg some (decide_eq_true (by (try (dsimp only; fail_if_success done)); omega))) ?_ | refine AL.nil ?_)) | with_reducible refine AW.at_region _ ?_ | (with_reducible (first | refine wk0 ?_ | refine wk2 ?_ | refine wk9 ?_ | refine wkb ?_)))
    all_goals first | (exfalso; omega) | (exact Fin.q Try.results139 (.cons (.tmp rfl) .nil) [])
  · rw [decide_eq_false h]
    repeat' (first | ((with_reducible refine kAL ?_); (first | refine A_as rfl rfl rfl rfl ?_ | (refine kL 0 rfl ?_; (first | refine A_move rfl rfl _ (.inl rfl) (y := .ln _) rfl ?_ | refine A_move rfl rfl _ (.inl rfl) (y := .fn _ _ _) rfl ?_)) | (refine kL 5226 rfl ?_; refine A_cl rfl rfl Try.func163 rfl (c1) ?_) | refine A_cmp (d := 8) rfl rfl (c := false) .geq 3 3 _ _ rfl rfl rfl (by exact congrArg some (decide_eq_false (by (try (dsimp only; fail_if_success done)); omega))) ?_ | refine AL.nil ?_)) | with_reducible refine AW.at_region _ ?_ | (with_reducible (first | refine wk0 ?_ | refine wk2 ?_ | refine wk9 ?_ | refine wkb ?_)))
    all_goals first | (exfalso; omega) | (exact Fin.q Try.results139 (.cons (.tmp rfl) .nil) [])
set_option maxHeartbeats 8000000 in
theorem idxFR_c (f : FuncId) (fi cap : List AV) (p : Rst → Bool) (l : List Rst) (hg : ∀ c ∈ l, CV Try.prog (.fn (.func f) fi cap) [.agg ((tR c).map .t)] (.t (.v (.bool (p c)))) []) (hup : upB (keepG 0) (.fn (.func f) fi cap) = .fn (.func f) fi cap)
    (hl : l.length ≤ 1152921504606846976) : Cd Try.prog 164 [.ln (l.map tR), .fn (.func f) fi cap] (i64 (ixF p l)) [] := by
  have h1 : (l.map tR).length = l.length := List.length_map _
  refine Cd.enter' Try.func164 rfl Try.ntmps164 rfl ?_
  repeat' (first | ((with_reducible refine kAL ?_); (first | refine A_as rfl rfl rfl rfl ?_ | (refine kL 0 rfl ?_; (first | refine A_mt rfl rfl rfl rfl ?_ | refine A_move rfl rfl _ (.inl rfl) (y := .ln _) rfl ?_)) | refine A_len rfl rfl 32 _ rfl ud32 rfl ?_ | refine AL.nil ?_)) | with_reducible refine AW.at_region _ ?_ | (with_reducible (first | refine wk0 ?_ | refine wk1 ?_ | refine wk2 ?_)))
  refine AW.loopP (fun (q : Nat) => q ≤ l.length ∧ ∀ j, j < q → ∀ b, l[j]? = some b → p b = false) (fun (q : Nat) => (pu (pu (pu (pu (fun _ => .any) 0 (.ln (l.map tR))) 1 (.fn (.func f) fi cap)) 7 (i64 (l.map tR).length)) 8 (i64 q))) (fun (q : Nat) => []) (fun (q : Nat) => l.length - q) (0) ?_ ?_ ?_
  · exact ⟨Nat.zero_le _, fun j hj => by omega⟩
  · exact Wk.cq 0
  · rintro q ⟨h2, h3⟩
    by_cases hq : q < l.length
    · obtain ⟨a, ha⟩ : ∃ a, l[q]? = some a := ⟨_, List.getElem?_eq_getElem hq⟩
      have c1 := hg a (List.mem_of_getElem? ha)
      cases hp : p a
      · rw [hp] at c1
        repeat' (first | ((with_reducible refine kAL ?_); (first | refine A_as rfl rfl rfl rfl ?_ | (refine kL 0 rfl ?_; (first | refine A_mt rfl rfl rfl rfl ?_ | refine A_move rfl rfl _ (.inl rfl) (y := .ln _) rfl ?_ | refine A_move rfl rfl _ (.inl rfl) (y := .fn _ _ _) rfl ?_)) | (refine kL 105 rfl ?_; (first | refine A_cmp (d := 9) rfl rfl (c := true) .lss 3 3 _ _ rfl rfl rfl (by exact congrArg some (decide_eq_true (by (try (dsimp only; fail_if_success done)); omega))) ?_ | refine A_add rfl rfl 3 3 _ _ rfl rfl rfl (by exact wi) ?_)) | (refine kL 1030 rfl ?_; refine A_idx rfl rfl 32 _ _ rfl ud32 inf107 (by decide) (by exact .inl rfl) rfl (by omega) _ (by with_reducible exact Int.toNat_natCast _) (by exact map_get (by assumption)) rfl (cs' := [_, _, _, _]) rfl ?_) | refine A_load_lp_agg rfl rfl 107 _ rfl ud107 rfl inf107 rfl (us' := [_, _, _, _]) rfl rfl ?_ | (refine kL 11 rfl ?_; refine A_callv rfl rfl rfl rfl (c1) (by ((repeat (first | exact .nil | refine .cons ?_ ?_ | exact .t _ | refine .aggL ?_)); (first | done | fail))) qL qU qU qN ?_) | refine AL.nil ?_)) | with_reducible refine AW.at_region _ ?_ | (with_reducible (first | refine wk0 ?_ | refine wk1 ?_ | refine wk2 ?_ | refine wk5 ?_ | refine wkd ?_)) | refine kct rfl ?_ | refine kcf rfl ?_)
        all_goals first | (exfalso; omega) | skip
        refine ⟨q + 1, ⟨by omega, fun j hj b hb => ?_⟩, by omega, ?_⟩
        · by_cases e : j = q
          · subst e; rw [ha] at hb; cases hb; exact hp
          · exact h3 j (by omega) b hb
        · exact Wk.cq 0
      · rw [hp] at c1
        rw [ixF_at p l q a h3 ha hp]
        repeat' (first | ((with_reducible refine kAL ?_); (first | refine A_as rfl rfl rfl rfl ?_ | (refine kL 0 rfl ?_; (first | refine A_mt rfl rfl rfl rfl ?_ | refine A_move rfl rfl _ (.inl rfl) (y := .ln _) rfl ?_ | refine A_move rfl rfl _ (.inl rfl) (y := .fn _ _ _) rfl ?_)) | refine A_cmp (d := 9) rfl rfl (c := true) .lss 3 3 _ _ rfl rfl rfl (by exact congrArg some (decide_eq_true (by (try (dsimp only; fail_if_success done)); omega))) ?_ | (refine kL 1030 rfl ?_; refine A_idx rfl rfl 32 _ _ rfl ud32 inf107 (by decide) (by exact .inl rfl) rfl (by omega) _ (by with_reducible exact Int.toNat_natCast _) (by exact map_get (by assumption)) rfl (cs' := [_, _, _, _]) rfl ?_) | refine A_load_lp_agg rfl rfl 107 _ rfl ud107 rfl inf107 rfl (us' := [_, _, _, _]) rfl rfl ?_ | (refine kL 11 rfl ?_; refine A_callv rfl rfl rfl rfl (c1) (by ((repeat (first | exact .nil | refine .cons ?_ ?_ | exact .t _ | refine .aggL ?_)); (first | done | fail))) qL qU qU qN ?_) | refine AL.nil ?_)) | with_reducible refine AW.at_region _ ?_ | (with_reducible (first | refine wk0 ?_ | refine wk1 ?_ | refine wk2 ?_ | refine wk3 ?_ | refine wk6 ?_ | refine wk9 ?_ | refine wkb ?_ | refine wkd ?_)) | refine kct rfl ?_)
        all_goals first | (exfalso; omega) | (exact Fin.q Try.results164 (.cons (.tmp rfl) .nil) [])
    · rw [ixF_none p l fun j b hb => h3 j (by have := get_lt hb; omega) b hb]
      repeat' (first | ((with_reducible refine kAL ?_); (first | refine A_as rfl rfl rfl rfl ?_ | refine A_cmp (d := 9) rfl rfl (c := false) .lss 3 3 _ _ rfl rfl rfl (by exact congrArg some (decide_eq_false (by (try (dsimp only; fail_if_success done)); omega))) ?_ | refine AL.nil ?_)) | with_reducible refine AW.at_region _ ?_ | (with_reducible (first | refine wk0 ?_ | refine wk2 ?_ | refine wk4 ?_ | refine wk7 ?_ | refine wk9 ?_ | refine wkb ?_ | refine wkc ?_)) | refine kcf rfl ?_)
      all_goals first | (exfalso; omega) | (exact Fin.q Try.results164 (.cons (.tmp rfl) .nil) [])
theorem conFR_c (f : FuncId) (fi cap : List AV) (p : Rst → Bool) (l : List Rst) (hg : ∀ c ∈ l, CV Try.prog (.fn (.func f) fi cap) [.agg ((tR c).map .t)] (.t (.v (.bool (p c)))) []) (hup : upB (keepG 0) (.fn (.func f) fi cap) = .fn (.func f) fi cap) (hps : ∀ heap sel, Pass heap sel (.fn (.func f) fi cap) (.fn (.func f) fi cap))
    (hl : l.length ≤ 1152921504606846976) : Cd Try.prog 141 [.ln (l.map tR), .fn (.func f) fi cap] (bo (l.any p)) [] := by
  have c1 := idxFR_c f fi cap p l hg hup hl
  rw [← ixF_any]
  refine Cd.enter' Try.func141 rfl Try.ntmps141 rfl ?_
  by_cases h : 0 ≤ ixF p l
  · rw [decide_eq_true h]
    repeat' (first | ((with_reducible refine kAL ?_); (first | refine A_as rfl rfl rfl rfl ?_ | (refine kL 0 rfl ?_; (first | refine A_move rfl rfl _ (.inl rfl) (y := .ln _) rfl ?_ | refine A_move rfl rfl _ (.inl rfl) (y := .fn _ _ _) rfl ?_)) | (refine kL 5258 rfl ?_; refine A_cl rfl rfl Try.func164 rfl (c1) ?_) | refine A_cmp (d := 8) rfl rfl (c := true) .geq 3 3 _ _ rfl rfl rfl (by exact congrArg some (decide_eq_true (by (try (dsimp only; fail_if_success done)); omega))) ?_ | refine AL.nil ?_)) | with_reducible refine AW.at_region _ ?_ | (with_reducible (first | refine wk0 ?_ | refine wk2 ?_ | refine wk9 ?_ | refine wkb ?_)))
    all_goals first | (exfalso; omega) | (exact Fin.q Try.results141 (.cons (.tmp rfl) .nil) [])
  · rw [decide_eq_false h]
    repeat' (first | ((with_reducible refine kAL ?_); (first | refine A_as rfl rfl rfl rfl ?_ | (refine kL 0 rfl ?_; (first | refine A_move rfl rfl _ (.inl rfl) (y := .ln _) rfl ?_ | refine A_move rfl rfl _ (.inl rfl) (y := .fn _ _ _) rfl ?_)) | (refine kL 5258 rfl ?_; refine A_cl rfl rfl Try.func164 rfl (c1) ?_) | refine A_cmp (d := 8) rfl rfl (c := false) .geq 3 3 _ _ rfl rfl rfl (by exact congrArg some (decide_eq_false (by (try (dsimp only; fail_if_success done)); omega))) ?_ | refine AL.nil ?_)) | with_reducible refine AW.at_region _ ?_ | (with_reducible (first | refine wk0 ?_ | refine wk2 ?_ | refine wk9 ?_ | refine wkb ?_)))
    all_goals first | (exfalso; omega) | (exact Fin.q Try.results141 (.cons (.tmp rfl) .nil) [])
set_option maxHeartbeats 8000000 in
theorem idxFC_c (f : FuncId) (fi cap : List AV) (p : DChan → Bool) (l : List DChan) (hg : ∀ c ∈ l, CV Try.prog (.fn (.func f) fi cap) [.agg ((tCh c).map .t)] (.t (.v (.bool (p c)))) []) (hup : upB (keepG 0) (.fn (.func f) fi cap) = .fn (.func f) fi cap)
    (hl : l.length ≤ 1152921504606846976) : Cd Try.prog 144 [.ln (l.map tCh), .fn (.func f) fi cap] (i64 (ixF p l)) [] := by
  have h1 : (l.map tCh).length = l.length := List.length_map _
  refine Cd.enter' Try.func144 rfl Try.ntmps144 rfl ?_
  repeat' (first | ((with_reducible refine kAL ?_); (first | refine A_as rfl rfl rfl rfl ?_ | (refine kL 0 rfl ?_; (first | refine A_mt rfl rfl rfl rfl ?_ | refine A_move rfl rfl _ (.inl rfl) (y := .ln _) rfl ?_)) | refine A_len rfl rfl 30 _ rfl ud30 rfl ?_ | refine AL.nil ?_)) | with_reducible refine AW.at_region _ ?_ | (with_reducible (first | refine wk0 ?_ | refine wk1 ?_ | refine wk2 ?_)))
  refine AW.loopP (fun (q : Nat) => q ≤ l.length ∧ ∀ j, j < q → ∀ b, l[j]? = some b → p b = false) (fun (q : Nat) => (pu (pu (pu (pu (fun _ => .any) 0 (.ln (l.map tCh))) 1 (.fn (.func f) fi cap)) 7 (i64 (l.map tCh).length)) 8 (i64 q))) (fun (q : Nat) => []) (fun (q : Nat) => l.length - q) (0) ?_ ?_ ?_
  · exact ⟨Nat.zero_le _, fun j hj => by omega⟩
  · exact Wk.cq 0
  · rintro q ⟨h2, h3⟩
    by_cases hq : q < l.length
    · obtain ⟨a, ha⟩ : ∃ a, l[q]? = some a := ⟨_, List.getElem?_eq_getElem hq⟩
      have c1 := hg a (List.mem_of_getElem? ha)
      cases hp : p a
      · rw [hp] at c1
        repeat' (first | ((with_reducible refine kAL ?_); (first | refine A_as rfl rfl rfl rfl ?_ | (refine kL 0 rfl ?_; (first | refine A_mt rfl rfl rfl rfl ?_ | refine A_move rfl rfl _ (.inl rfl) (y := .ln _) rfl ?_ | refine A_move rfl rfl _ (.inl rfl) (y := .fn _ _ _) rfl ?_)) | (refine kL 105 rfl ?_; (first | refine A_cmp (d := 9) rfl rfl (c := true) .lss 3 3 _ _ rfl rfl rfl (by exact congrArg some (decide_eq_true (by (try (dsimp only; fail_if_success done)); omega))) ?_ | refine A_add rfl rfl 3 3 _ _ rfl rfl rfl (by exact wi) ?_)) | (refine kL 966 rfl ?_; refine A_idx rfl rfl 30 _ _ rfl ud30 inf83 (by decide) (by exact .inl rfl) rfl (by omega) _ (by with_reducible exact Int.toNat_natCast _) (by exact map_get (by assumption)) rfl (cs' := [_, _, _, _, _]) rfl ?_) | refine A_load_lp_agg rfl rfl 83 _ rfl ud83 rfl inf83 rfl (us' := [_, _, _, _, _]) rfl rfl ?_ | (refine kL 11 rfl ?_; refine A_callv rfl rfl rfl rfl (c1) (by ((repeat (first | exact .nil | refine .cons ?_ ?_ | exact .t _ | refine .aggL ?_)); (first | done | fail))) qL qU qU qN ?_) | refine AL.nil ?_)) | with_reducible refine AW.at_region _ ?_ | (with_reducible (first | refine wk0 ?_ | refine wk1 ?_ | refine wk2 ?_ | refine wk5 ?_ | refine wkd ?_)) | refine kct rfl ?_ | refine kcf rfl ?_)
        all_goals first | (exfalso; omega) | skip
        refine ⟨q + 1, ⟨by omega, fun j hj b hb => ?_⟩, by omega, ?_⟩
        · by_cases e : j = q
          · subst e; rw [ha] at hb; cases hb; exact hp
          · exact h3 j (by omega) b hb
        · exact Wk.cq 0
      · rw [hp] at c1
        rw [ixF_at p l q a h3 ha hp]
        repeat' (first | ((with_reducible refine kAL ?_); (first | refine A_as rfl rfl rfl rfl ?_ | (refine kL 0 rfl ?_; (first | refine A_mt rfl rfl rfl rfl ?_ | refine A_move rfl rfl _ (.inl rfl) (y := .ln _) rfl ?_ | refine A_move rfl rfl _ (.inl rfl) (y := .fn _ _ _) rfl ?_)) | refine A_cmp (d := 9) rfl rfl (c := true) .lss 3 3 _ _ rfl rfl rfl (by exact congrArg some (decide_eq_true (by (try (dsimp only; fail_if_success done)); omega))) ?_ | (refine kL 966 rfl ?_; refine A_idx rfl rfl 30 _ _ rfl ud30 inf83 (by decide) (by exact .inl rfl) rfl (by omega) _ (by with_reducible exact Int.toNat_natCast _) (by exact map_get (by assumption)) rfl (cs' := [_, _, _, _, _]) rfl ?_) | refine A_load_lp_agg rfl rfl 83 _ rfl ud83 rfl inf83 rfl (us' := [_, _, _, _, _]) rfl rfl ?_ | (refine kL 11 rfl ?_; refine A_callv rfl rfl rfl rfl (c1) (by ((repeat (first | exact .nil | refine .cons ?_ ?_ | exact .t _ | refine .aggL ?_)); (first | done | fail))) qL qU qU qN ?_) | refine AL.nil ?_)) | with_reducible refine AW.at_region _ ?_ | (with_reducible (first | refine wk0 ?_ | refine wk1 ?_ | refine wk2 ?_ | refine wk3 ?_ | refine wk6 ?_ | refine wk9 ?_ | refine wkb ?_ | refine wkd ?_)) | refine kct rfl ?_)
        all_goals first | (exfalso; omega) | (exact Fin.q Try.results144 (.cons (.tmp rfl) .nil) [])
    · rw [ixF_none p l fun j b hb => h3 j (by have := get_lt hb; omega) b hb]
      repeat' (first | ((with_reducible refine kAL ?_); (first | refine A_as rfl rfl rfl rfl ?_ | refine A_cmp (d := 9) rfl rfl (c := false) .lss 3 3 _ _ rfl rfl rfl (by exact congrArg some (decide_eq_false (by (try (dsimp only; fail_if_success done)); omega))) ?_ | refine AL.nil ?_)) | with_reducible refine AW.at_region _ ?_ | (with_reducible (first | refine wk0 ?_ | refine wk2 ?_ | refine wk4 ?_ | refine wk7 ?_ | refine wk9 ?_ | refine wkb ?_ | refine wkc ?_)) | refine kcf rfl ?_)
      all_goals first | (exfalso; omega) | (exact Fin.q Try.results144 (.cons (.tmp rfl) .nil) [])
theorem conFC_c (f : FuncId) (fi cap : List AV) (p : DChan → Bool) (l : List DChan) (hg : ∀ c ∈ l, CV Try.prog (.fn (.func f) fi cap) [.agg ((tCh c).map .t)] (.t (.v (.bool (p c)))) []) (hup : upB (keepG 0) (.fn (.func f) fi cap) = .fn (.func f) fi cap) (hps : ∀ heap sel, Pass heap sel (.fn (.func f) fi cap) (.fn (.func f) fi cap))
    (hl : l.length ≤ 1152921504606846976) : Cd Try.prog 82 [.ln (l.map tCh), .fn (.func f) fi cap] (bo (l.any p)) [] := by
  have c1 := idxFC_c f fi cap p l hg hup hl
  rw [← ixF_any]
  refine Cd.enter' Try.func82 rfl Try.ntmps82 rfl ?_
  by_cases h : 0 ≤ ixF p l
  · rw [decide_eq_true h]
    repeat' (first | ((with_reducible refine kAL ?_); (first | refine A_as rfl rfl rfl rfl ?_ | (refine kL 0 rfl ?_; (first | refine A_move rfl rfl _ (.inl rfl) (y := .ln _) rfl ?_ | refine A_move rfl rfl _ (.inl rfl) (y := .fn _ _ _) rfl ?_)) | (refine kL 4618 rfl ?_; refine A_cl rfl rfl Try.func144 rfl (c1) ?_) | refine A_cmp (d := 8) rfl rfl (c := true) .geq 3 3 _ _ rfl rfl rfl (by exact congrArg some (decide_eq_true (by (try (dsimp only; fail_if_success done)); omega))) ?_ | refine AL.nil ?_)) | with_reducible refine AW.at_region _ ?_ | (with_reducible (first | refine wk0 ?_ | refine wk2 ?_ | refine wk9 ?_ | refine wkb ?_)))
    all_goals first | (exfalso; omega) | (exact Fin.q Try.results82 (.cons (.tmp rfl) .nil) [])
  · rw [decide_eq_false h]
    repeat' (first | ((with_reducible refine kAL ?_); (first | refine A_as rfl rfl rfl rfl ?_ | (refine kL 0 rfl ?_; (first | refine A_move rfl rfl _ (.inl rfl) (y := .ln _) rfl ?_ | refine A_move rfl rfl _ (.inl rfl) (y := .fn _ _ _) rfl ?_)) | (refine kL 4618 rfl ?_; refine A_cl rfl rfl Try.func144 rfl (c1) ?_) | refine A_cmp (d := 8) rfl rfl (c := false) .geq 3 3 _ _ rfl rfl rfl (by exact congrArg some (decide_eq_false (by (try (dsimp only; fail_if_success done)); omega))) ?_ | refine AL.nil ?_)) | with_reducible refine AW.at_region _ ?_ | (with_reducible (first | refine wk0 ?_ | refine wk2 ?_ | refine wk9 ?_ | refine wkb ?_)))
    all_goals first | (exfalso; omega) | (exact Fin.q Try.results82 (.cons (.tmp rfl) .nil) [])
set_option maxHeartbeats 8000000 in
theorem idxFW_c (f : FuncId) (fi cap : List AV) (p : DWait → Bool) (l : List DWait) (hg : ∀ c ∈ l, CV Try.prog (.fn (.func f) fi cap) [.agg ((tWt c).map .t)] (.t (.v (.bool (p c)))) []) (hup : upB (keepG 0) (.fn (.func f) fi cap) = .fn (.func f) fi cap)
    (hl : l.length ≤ 1152921504606846976) : Cd Try.prog 145 [.ln (l.map tWt), .fn (.func f) fi cap] (i64 (ixF p l)) [] := by
  have h1 : (l.map tWt).length = l.length := List.length_map _
  refine Cd.enter' Try.func145 rfl Try.ntmps145 rfl ?_
  repeat' (first | ((with_reducible refine kAL ?_); (first | refine A_as rfl rfl rfl rfl ?_ | (refine kL 0 rfl ?_; (first | refine A_mt rfl rfl rfl rfl ?_ | refine A_move rfl rfl _ (.inl rfl) (y := .ln _) rfl ?_)) | refine A_len rfl rfl 31 _ rfl ud31 rfl ?_ | refine AL.nil ?_)) | with_reducible refine AW.at_region _ ?_ | (with_reducible (first | refine wk0 ?_ | refine wk1 ?_ | refine wk2 ?_)))
  refine AW.loopP (fun (q : Nat) => q ≤ l.length ∧ ∀ j, j < q → ∀ b, l[j]? = some b → p b = false) (fun (q : Nat) => (pu (pu (pu (pu (fun _ => .any) 0 (.ln (l.map tWt))) 1 (.fn (.func f) fi cap)) 7 (i64 (l.map tWt).length)) 8 (i64 q))) (fun (q : Nat) => []) (fun (q : Nat) => l.length - q) (0) ?_ ?_ ?_
  · exact ⟨Nat.zero_le _, fun j hj => by omega⟩
  · exact Wk.cq 0
  · rintro q ⟨h2, h3⟩
    by_cases hq : q < l.length
    · obtain ⟨a, ha⟩ : ∃ a, l[q]? = some a := ⟨_, List.getElem?_eq_getElem hq⟩
      have c1 := hg a (List.mem_of_getElem? ha)
      cases hp : p a
      · rw [hp] at c1
        repeat' (first | ((with_reducible refine kAL ?_); (first | refine A_as rfl rfl rfl rfl ?_ | (refine kL 0 rfl ?_; (first | refine A_mt rfl rfl rfl rfl ?_ | refine A_move rfl rfl _ (.inl rfl) (y := .ln _) rfl ?_ | refine A_move rfl rfl _ (.inl rfl) (y := .fn _ _ _) rfl ?_)) | (refine kL 105 rfl ?_; (first | refine A_cmp (d := 9) rfl rfl (c := true) .lss 3 3 _ _ rfl rfl rfl (by exact congrArg some (decide_eq_true (by (try (dsimp only; fail_if_success done)); omega))) ?_ | refine A_add rfl rfl 3 3 _ _ rfl rfl rfl (by exact wi) ?_)) | (refine kL 998 rfl ?_; refine A_idx rfl rfl 31 _ _ rfl ud31 inf92 (by decide) (by exact .inl rfl) rfl (by omega) _ (by with_reducible exact Int.toNat_natCast _) (by exact map_get (by assumption)) rfl (cs' := [_, _, _, _]) rfl ?_) | refine A_load_lp_agg rfl rfl 92 _ rfl ud92 rfl inf92 rfl (us' := [_, _, _, _]) rfl rfl ?_ | (refine kL 11 rfl ?_; refine A_callv rfl rfl rfl rfl (c1) (by ((repeat (first | exact .nil | refine .cons ?_ ?_ | exact .t _ | refine .aggL ?_)); (first | done | fail))) qL qU qU qN ?_) | refine AL.nil ?_)) | with_reducible refine AW.at_region _ ?_ | (with_reducible (first | refine wk0 ?_ | refine wk1 ?_ | refine wk2 ?_ | refine wk5 ?_ | refine wkd ?_)) | refine kct rfl ?_ | refine kcf rfl ?_)
        all_goals first | (exfalso; omega) | skip
        refine ⟨q + 1, ⟨by omega, fun j hj b hb => ?_⟩, by omega, ?_⟩
        · by_cases e : j = q
          · subst e; rw [ha] at hb; cases hb; exact hp
          · exact h3 j (by omega) b hb
        · exact Wk.cq 0
      · rw [hp] at c1
        rw [ixF_at p l q a h3 ha hp]
        repeat' (first | ((with_reducible refine kAL ?_); (first | refine A_as rfl rfl rfl rfl ?_ | (refine kL 0 rfl ?_; (first | refine A_mt rfl rfl rfl rfl ?_ | refine A_move rfl rfl _ (.inl rfl) (y := .ln _) rfl ?_ | refine A_move rfl rfl _ (.inl rfl) (y := .fn _ _ _) rfl ?_)) | refine A_cmp (d := 9) rfl rfl (c := true) .lss 3 3 _ _ rfl rfl rfl (by exact congrArg some (decide_eq_true (by (try (dsimp only; fail_if_success done)); omega))) ?_ | (refine kL 998 rfl ?_; refine A_idx rfl rfl 31 _ _ rfl ud31 inf92 (by decide) (by exact .inl rfl) rfl (by omega) _ (by with_reducible exact Int.toNat_natCast _) (by exact map_get (by assumption)) rfl (cs' := [_, _, _, _]) rfl ?_) | refine A_load_lp_agg rfl rfl 92 _ rfl ud92 rfl inf92 rfl (us' := [_, _, _, _]) rfl rfl ?_ | (refine kL 11 rfl ?_; refine A_callv rfl rfl rfl rfl (c1) (by ((repeat (first | exact .nil | refine .cons ?_ ?_ | exact .t _ | refine .aggL ?_)); (first | done | fail))) qL qU qU qN ?_) | refine AL.nil ?_)) | with_reducible refine AW.at_region _ ?_ | (with_reducible (first | refine wk0 ?_ | refine wk1 ?_ | refine wk2 ?_ | refine wk3 ?_ | refine wk6 ?_ | refine wk9 ?_ | refine wkb ?_ | refine wkd ?_)) | refine kct rfl ?_)
        all_goals first | (exfalso; omega) | (exact Fin.q Try.results145 (.cons (.tmp rfl) .nil) [])
    · rw [ixF_none p l fun j b hb => h3 j (by have := get_lt hb; omega) b hb]
      repeat' (first | ((with_reducible refine kAL ?_); (first | refine A_as rfl rfl rfl rfl ?_ | refine A_cmp (d := 9) rfl rfl (c := false) .lss 3 3 _ _ rfl rfl rfl (by exact congrArg some (decide_eq_false (by (try (dsimp only; fail_if_success done)); omega))) ?_ | refine AL.nil ?_)) | with_reducible refine AW.at_region _ ?_ | (with_reducible (first | refine wk0 ?_ | refine wk2 ?_ | refine wk4 ?_ | refine wk7 ?_ | refine wk9 ?_ | refine wkb ?_ | refine wkc ?_)) | refine kcf rfl ?_)
      all_goals first | (exfalso; omega) | (exact Fin.q Try.results145 (.cons (.tmp rfl) .nil) [])
theorem conFW_c (f : FuncId) (fi cap : List AV) (p : DWait → Bool) (l : List DWait) (hg : ∀ c ∈ l, CV Try.prog (.fn (.func f) fi cap) [.agg ((tWt c).map .t)] (.t (.v (.bool (p c)))) []) (hup : upB (keepG 0) (.fn (.func f) fi cap) = .fn (.func f) fi cap) (hps : ∀ heap sel, Pass heap sel (.fn (.func f) fi cap) (.fn (.func f) fi cap))
    (hl : l.length ≤ 1152921504606846976) : Cd Try.prog 85 [.ln (l.map tWt), .fn (.func f) fi cap] (bo (l.any p)) [] := by
  have c1 := idxFW_c f fi cap p l hg hup hl
  rw [← ixF_any]
  refine Cd.enter' Try.func85 rfl Try.ntmps85 rfl ?_
  by_cases h : 0 ≤ ixF p l
  · rw [decide_eq_true h]
    repeat' (first | ((with_reducible refine kAL ?_); (first | refine A_as rfl rfl rfl rfl ?_ | (refine kL 0 rfl ?_; (first | refine A_move rfl rfl _ (.inl rfl) (y := .ln _) rfl ?_ | refine A_move rfl rfl _ (.inl rfl) (y := .fn _ _ _) rfl ?_)) | (refine kL 4650 rfl ?_; refine A_cl rfl rfl Try.func145 rfl (c1) ?_) | refine A_cmp (d := 8) rfl rfl (c := true) .geq 3 3 _ _ rfl rfl rfl (by exact congrArg some (decide_eq_true (by (try (dsimp only; fail_if_success done)); omega))) ?_ | refine AL.nil ?_)) | with_reducible refine AW.at_region _ ?_ | (with_reducible (first | refine wk0 ?_ | refine wk2 ?_ | refine wk9 ?_ | refine wkb ?_)))
    all_goals first | (exfalso; omega) | (exact Fin.q Try.results85 (.cons (.tmp rfl) .nil) [])
  · rw [decide_eq_false h]
    repeat' (first | ((with_reducible refine kAL ?_); (first | refine A_as rfl rfl rfl rfl ?_ | (refine kL 0 rfl ?_; (first | refine A_move rfl rfl _ (.inl rfl) (y := .ln _) rfl ?_ | refine A_move rfl rfl _ (.inl rfl) (y := .fn _ _ _) rfl ?_)) | (refine kL 4650 rfl ?_; refine A_cl rfl rfl Try.func145 rfl (c1) ?_) | refine A_cmp (d := 8) rfl rfl (c := false) .geq 3 3 _ _ rfl rfl rfl (by exact congrArg some (decide_eq_false (by (try (dsimp only; fail_if_success done)); omega))) ?_ | refine AL.nil ?_)) | with_reducible refine AW.at_region _ ?_ | (with_reducible (first | refine wk0 ?_ | refine wk2 ?_ | refine wk9 ?_ | refine wkb ?_)))
    all_goals first | (exfalso; omega) | (exact Fin.q Try.results85 (.cons (.tmp rfl) .nil) [])
end Go.Proofs.Ytijaphlmomcbfaa
