/- The laws of layer 11: ChansAfter. -/
import Derived.Test.YtkichjejadkdgaaTLaw11
import Derived.Test.YtkichjejadkdgaaTOnR
namespace Go.Proofs.Ytkichjejadkdgaa
set_option linter.unusedVariables false
set_option linter.unusedSimpArgs false
set_option linter.unnecessarySimpa false
open Go.RowKit
set_option maxHeartbeats 32000000
attribute [local irreducible] AL AW RG Fin C Cd Cio thenQ blockQ retQ
set_option maxRecDepth 100000
attribute [local simp] putW_len cutW_len
/-- nobody waits with a case of a handle -/
def noneW (l : List DWait) (h : Int) : Prop := ∀ (t : Nat) (w : DWait), l[t]? = some w → w.on = true → ∀ c ∈ w.cases, c.handle ≠ h
theorem noneW_fir {l : List DWait} {h : Int} (hn : noneW l h) (d : Int) : fir l d h = ⟨0, 0, false⟩ := by
  have hk : (fir l d h).ok = false := by
    cases hk : (fir l d h).ok
    · rfl
    · obtain ⟨t, m, w, c, _, _, hw, hon, hc, _, hh⟩ := fir_ok hk
      exact absurd hh (hn t w hw hon c (List.mem_of_getElem? hc))
  obtain ⟨h1, h2⟩ := fir_no hk
  generalize fir l d h = F at hk h1 h2
  obtain ⟨a, b, o⟩ := F
  dsimp only at hk h1 h2
  rw [hk, h1, h2]
theorem noneW_onK {l : List DWait} {h : Int} (hn : noneW l h) : ∀ k, k ≤ l.length → onK l h k = []
  | 0, _ => rfl
  | k + 1, hk => by
    obtain ⟨w, hw⟩ : ∃ w, l[k]? = some w := ⟨_, List.getElem?_eq_getElem (by omega)⟩
    rw [onK_next hw, noneW_onK hn k (by omega)]
    cases ho : w.on
    · simp
    · have : ¬ 0 ≤ ixF (isH h) w.cases := fun e => by
        obtain ⟨c, hc, hp⟩ := ixF_get (isH h) w.cases e
        exact hn k w hw ho c (List.mem_of_getElem? hc) (of_decide_eq_true hp)
      rw [decide_eq_false this]; simp
theorem noneW_onS {l : List DWait} {h : Int} (hn : noneW l h) : onS l h = [] := by unfold onS; rw [noneW_onK hn _ (Nat.le_refl _)]; rfl
/-- calls that are cut -/
theorem cuts_get (S : List Int) : ∀ (l : List DWait) (t : Nat) (w : DWait), (S.foldl cutW l)[t]? = some w → (w.on = false) ∨ (l[t]? = some w ∧ ((t : Int) ∉ S)) := by
  induction S with
  | nil => intro l t w h; exact .inr ⟨h, by simp⟩
  | cons z S ih =>
    intro l t w h
    rw [List.foldl_cons] at h
    rcases ih _ t w h with h1 | ⟨h1, h2⟩
    · exact .inl h1
    · cases hc : cutOk l z
      · rw [cutW_no hc] at h1
        by_cases e : (t : Int) = z
        · subst e
          left
          have := of_decide_eq_false hc
          cases ho : w.on
          · rfl
          · exact absurd (show _ from ⟨by omega, by have := get_lt h1; omega, by rw [Int.toNat_natCast, getD_of h1]; exact ho⟩) this
        · exact .inr ⟨h1, by simp [h2, e]⟩
      · obtain ⟨n, rfl⟩ : ∃ n : Nat, z = n := ⟨z.toNat, by have := of_decide_eq_true hc; omega⟩
        rw [cutW_yes hc] at h1
        by_cases e : n = t
        · left
          rw [List.getElem?_set] at h1
          rw [if_pos e] at h1
          split at h1
          · cases h1; rfl
          · cases h1
        · rw [List.getElem?_set_ne e] at h1
          exact .inr ⟨h1, by simp only [List.mem_cons, not_or]; exact ⟨by omega, h2⟩⟩
theorem shut_none (l : List DWait) (h : Int) : noneW ((onS l h).foldl cutW l) h := by
  intro t w hw hon c hc hh
  rcases cuts_get _ _ _ _ hw with h1 | ⟨h1, h2⟩
  · rw [h1] at hon; cases hon
  · refine h2 (isort_mem.2 ?_)
    have : ∀ k, t < k → k ≤ l.length → (t : Int) ∈ onK l h k := by
      intro k
      induction k with
      | zero => intro h; omega
      | succ k ih =>
        intro hk hkl
        obtain ⟨a, ha⟩ : ∃ a, l[k]? = some a := ⟨_, List.getElem?_eq_getElem (by omega)⟩
        rw [onK_next ha]
        by_cases e : t = k
        · subst e
          rw [h1] at ha; cases ha
          obtain ⟨j, hj⟩ := List.getElem?_of_mem hc
          have := ixF_yes (isH h) hj (decide_eq_true hh)
          rw [hon, decide_eq_true this]; simp
        · have := ih (by omega) (by omega)
          split
          · simp [this]
          · exact this
    exact this l.length (get_lt h1) (Nat.le_refl _)
theorem cuts_ok (S : List Int) : ∀ (l : List DWait), okW l → okW (S.foldl cutW l) ∧ (S.foldl cutW l).length = l.length := by
  induction S with
  | nil => intro l hl; exact ⟨hl, rfl⟩
  | cons z S ih =>
    intro l hl
    have := ih (cutW l z) (okW_cut hl)
    rw [List.foldl_cons]
    exact ⟨this.1, by rw [this.2, cutW_len]⟩
theorem idle_c (c : DChan) (h : Int) (l : List DWait) (hl : okW l) : Cd Try.prog 60 [aC c, i64 h, .ln (l.map tWt)] (bo (c.used && c.closed && decide (c.buf = []) && decide (onS l h = []))) [] := by
  have cO := onAll_c l h hl
  rw [← isort_len (key := tick l)] at cO
  have h2 : (onS l h).length ≤ l.length := (onS_b l h).2.1
  have h3 := hl.1
  unfold onS at h2 ⊢
  generalize isort (tick l) (onK l h l.length) = S at cO h2 ⊢
  obtain ⟨g, cap, used, closed, buf⟩ := c
  have h1 : (buf.map tI).length = buf.length := List.length_map _
  dsimp only [aC]
  by_cases e1 : buf = []
  · subst e1
    by_cases e2 : S = []
    · subst e2
      cases used <;> cases closed
      all_goals
        refine Cd.enter' Try.func60 rfl Try.ntmps60 rfl ?_
        repeat' (first | ((with_reducible refine kAL ?_); (first | refine A_box rfl rfl 66 _ rfl rfl (.push qL qN) ?_ | refine A_as rfl rfl rfl rfl ?_ | (refine kL 2116 rfl ?_; (first | refine A_field rfl rfl 66 _ 2 rfl ud66 rfl inf4 (by decide) 2 rfl rfl ?_ | refine A_field rfl rfl 66 _ 3 rfl ud66 rfl inf4 (by decide) 3 rfl rfl ?_ | refine A_field rfl rfl 66 _ 4 rfl ud66 rfl inf44 (by decide) 4 rfl rfl ?_)) | refine A_load rfl rfl 4 _ rfl ud4 rfl rfl rfl rfl ?_ | (refine kL 0 rfl ?_; (first | refine A_mt rfl rfl rfl rfl ?_ | refine A_move rfl rfl _ (.inl rfl) (y := .ln _) rfl ?_)) | refine A_pick rfl rfl _ _ _ rfl rfl rfl rfl rfl ?_ | refine A_load rfl rfl 44 _ rfl ud44 rfl rfl rfl rfl ?_ | refine A_len rfl rfl 44 _ rfl ud44 rfl ?_ | refine A_cmp rfl rfl .eql 3 3 _ _ rfl rfl rfl rfl ?_ | (refine kL 1450 rfl ?_; refine A_cl rfl rfl Try.func45 rfl (cO) ?_) | refine AL.nil ?_ | refine AL.skip rfl rfl ?_)) | with_reducible refine AW.at_region _ ?_ | (with_reducible (first | refine wk0 ?_ | refine wk2 ?_ | refine wk9 ?_ | refine wkb ?_)))
        all_goals first | (exfalso; omega) | (exact Fin.q Try.results60 (.cons (.tmp rfl) .nil) [])
    · have : 0 < S.length := List.length_pos_iff.2 e2
      rw [decide_eq_false e2]
      cases used <;> cases closed
      all_goals
        refine Cd.enter' Try.func60 rfl Try.ntmps60 rfl ?_
        repeat' (first | ((with_reducible refine kAL ?_); (first | refine A_box rfl rfl 66 _ rfl rfl (.push qL qN) ?_ | refine A_as rfl rfl rfl rfl ?_ | (refine kL 2116 rfl ?_; (first | refine A_field rfl rfl 66 _ 2 rfl ud66 rfl inf4 (by decide) 2 rfl rfl ?_ | refine A_field rfl rfl 66 _ 3 rfl ud66 rfl inf4 (by decide) 3 rfl rfl ?_ | refine A_field rfl rfl 66 _ 4 rfl ud66 rfl inf44 (by decide) 4 rfl rfl ?_)) | refine A_load rfl rfl 4 _ rfl ud4 rfl rfl rfl rfl ?_ | (refine kL 0 rfl ?_; (first | refine A_mt rfl rfl rfl rfl ?_ | refine A_move rfl rfl _ (.inl rfl) (y := .ln _) rfl ?_)) | refine A_pick rfl rfl _ _ _ rfl rfl rfl rfl rfl ?_ | refine A_load rfl rfl 44 _ rfl ud44 rfl rfl rfl rfl ?_ | refine A_len rfl rfl 44 _ rfl ud44 rfl ?_ | (refine kL 105 rfl ?_; (first | refine A_cmp rfl rfl (c := false) .eql 3 3 _ _ rfl rfl rfl (by exact congrArg some (decide_eq_false (by (try (dsimp only; fail_if_success done)); omega))) ?_ | refine A_cmp rfl rfl .eql 3 3 _ _ rfl rfl rfl rfl ?_)) | (refine kL 1450 rfl ?_; refine A_cl rfl rfl Try.func45 rfl (cO) ?_) | refine AL.nil ?_ | refine AL.skip rfl rfl ?_)) | with_reducible refine AW.at_region _ ?_ | (with_reducible (first | refine wk0 ?_ | refine wk2 ?_ | refine wk9 ?_ | refine wkb ?_)))
        all_goals first | (exfalso; omega) | (exact Fin.q Try.results60 (.cons (.tmp rfl) .nil) [])
  · have : 0 < buf.length := List.length_pos_iff.2 e1
    rw [decide_eq_false e1]
    cases used <;> cases closed
    all_goals
      refine Cd.enter' Try.func60 rfl Try.ntmps60 rfl ?_
      repeat' (first | ((with_reducible refine kAL ?_); (first | refine A_box rfl rfl 66 _ rfl rfl (.push qL qN) ?_ | refine A_as rfl rfl rfl rfl ?_ | (refine kL 2116 rfl ?_; (first | refine A_field rfl rfl 66 _ 2 rfl ud66 rfl inf4 (by decide) 2 rfl rfl ?_ | refine A_field rfl rfl 66 _ 3 rfl ud66 rfl inf4 (by decide) 3 rfl rfl ?_ | refine A_field rfl rfl 66 _ 4 rfl ud66 rfl inf44 (by decide) 4 rfl rfl ?_)) | refine A_load rfl rfl 4 _ rfl ud4 rfl rfl rfl rfl ?_ | refine A_mt rfl rfl rfl rfl ?_ | refine A_pick rfl rfl _ _ _ rfl rfl rfl rfl rfl ?_ | refine A_load rfl rfl 44 _ rfl ud44 rfl rfl rfl rfl ?_ | refine A_len rfl rfl 44 _ rfl ud44 rfl ?_ | refine A_cmp rfl rfl (c := false) .eql 3 3 _ _ rfl rfl rfl (by exact congrArg some (decide_eq_false (by (try (dsimp only; fail_if_success done)); omega))) ?_ | refine AL.nil ?_ | refine AL.skip rfl rfl ?_)) | with_reducible refine AW.at_region _ ?_ | (with_reducible (first | refine wk0 ?_ | refine wk2 ?_ | refine wk9 ?_ | refine wkb ?_)))
      all_goals first | (exfalso; omega) | (exact Fin.q Try.results60 (.cons (.tmp rfl) .nil) [])
end Go.Proofs.Ytkichjejadkdgaa
