/- Joined: XTSort, XTOn, XTSortM, XTSortW, XTPWaits, XTLaw10, XTOnB, XTLaw10b, XTLaw10c. -/
import Derived.Test.YtphcebioiipdpaaKPe
import Derived.Test.YtphcebioiipdpaaKPc
namespace Go.Proofs.Ytphcebioiipdpaa
set_option linter.unusedVariables false
set_option linter.unusedSimpArgs false
set_option linter.unnecessarySimpa false
open Go.RowKit
set_option maxHeartbeats 32000000
attribute [local irreducible] AL AW RG Fin C Cd Cio thenQ blockQ retQ
set_option maxRecDepth 100000
def CmpV (g : AV) (key : Int → Int) (l : List Int) : Prop := ∀ x ∈ l, ∀ y ∈ l, ∃ c : Int, (c < 0 ↔ key x < key y) ∧ CV Try.prog g [i64 x, i64 y] (i64 c) []
theorem CmpV.mono {g : AV} {key : Int → Int} {l m : List Int} (h : CmpV g key l) (k : ∀ x ∈ m, x ∈ l) : CmpV g key m := fun x hx y hy => h x (k x hx) y (k y hy)
set_option maxHeartbeats 16000000 in
theorem insert_c (f : FuncId) (fi cap : List AV) (key : Int → Int) (l : List Int) (k a b : Nat) (hab : a ≤ b) (hb : b ≤ l.length) (hl : l.length ≤ 1152921504606846976) (hg : CmpV (.fn (.func f) fi cap) key l)
    (hup : upB (keepG 1) (.fn (.func f) fi cap) = .fn (.func f) fi cap) :
    Cio Try.prog 123 [.sl 0 k l.length, i64 a, i64 b, .fn (.func f) fi cap] [.row k 3 1 (l.map tI)] (.tup []) [.row k 3 1 ((srt key l a b).map tI)] := by
  refine Cio.enter' Try.func123 rfl Try.ntmps123 rfl qM ?_
  repeat' (first | ((with_reducible refine kAL ?_); (first | refine A_mt rfl rfl rfl rfl ?_ | refine A_add rfl rfl 3 3 _ _ rfl rfl rfl (by exact wi) ?_ | refine A_as rfl rfl rfl rfl ?_ | refine AL.nil ?_)) | (with_reducible (first | refine wk0 ?_ | refine wk1 ?_ | refine wk2 ?_)) | with_reducible refine AW.at_region _ ?_)
  refine AW.loopP (fun (x : Nat × List Int) => (b ≤ x.1 ∧ x.1 ≤ b + 1 ∧ x.2 = srt key l a b) ∨ (a < x.1 ∧ x.1 ≤ b ∧ x.2 = srt key l a x.1)) (fun (x : Nat × List Int) => (pu (pu (pu (pu (pu (fun _ => .any) 0 (.sl 0 k l.length)) 1 (i64 a)) 2 (i64 b)) 3 (.fn (.func f) fi cap)) 8 (i64 x.1))) (fun (x : Nat × List Int) => [.row k 3 1 (x.2.map tI)]) (fun (x : Nat × List Int) => b + 1 - x.1) ((a + 1, l)) ?_ ?_ ?_
  · by_cases h : a < b
    · exact .inr ⟨by dsimp only; omega, by dsimp only; omega, (srt_one (l := l) (by omega)).symm⟩
    · obtain rfl : a = b := by omega
      exact .inl ⟨by dsimp only; omega, by dsimp only; omega, srt_same.symm⟩
  · exact Wk.cq 1
  · rintro ⟨i, M⟩ hi
    dsimp only at hi ⊢
    by_cases hib : i < b
    · obtain ⟨h1, h2, h3⟩ : a < i ∧ i ≤ b ∧ M = srt key l a i := by
        rcases hi with hi | hi
        · omega
        · exact hi
      obtain ⟨x, hx⟩ : ∃ x, l[i]? = some x := ⟨_, List.getElem?_eq_getElem (by omega)⟩
      obtain ⟨S, hS⟩ : ∃ S, isort key ((l.drop a).take (i - a)) = S := ⟨_, rfl⟩
      have hSl : S.length = i - a := by rw [← hS, isort_len, List.length_take, List.length_drop]; omega
      have hSs : srtd key S := by rw [← hS]; exact (isort_all _ _).1
      have hSm : ∀ z ∈ S, z ∈ l := fun z hz => by rw [← hS] at hz; exact List.mem_of_mem_drop (List.mem_of_mem_take (isort_mem.1 hz))
      have hxl : x ∈ l := List.mem_of_getElem? hx
      have hnew : srt key l a (i + 1) = l.take a ++ insS key x S ++ l.drop (i + 1) := by unfold srt; rw [seg_next (by omega) hx, isort_next, hS]
      have hM : M = l.take a ++ S ++ x :: l.drop (i + 1) := by rw [h3, ← drop_next hx, ← hS]; rfl
      clear h3 hi
      have hta : (l.take a).length = a := by rw [List.length_take]; omega
      repeat' (first | ((with_reducible refine kAL ?_); (first | refine A_mt rfl rfl rfl rfl ?_ | refine A_cmp (d := 14) rfl rfl (c := true) .lss 3 3 _ _ rfl rfl rfl (by exact congrArg some (decide_eq_true (by (try (dsimp only; fail_if_success done)); omega))) ?_ | refine A_as rfl rfl rfl rfl ?_ | refine AL.nil ?_)) | (with_reducible (first | refine wk0 ?_ | refine wk1 ?_ | refine wk2 ?_ | refine wkd ?_)) | refine kct rfl ?_ | with_reducible refine AW.at_region _ ?_)
      all_goals first | (exfalso; omega) | skip
      refine AW.loopP (fun (y : Int × List Int × List Int × List Int) => y.1 = a + y.2.2.1.length ∧ y.2.2.1 ++ y.2.2.2 = S ∧ (∀ z ∈ y.2.2.2, key x < key z) ∧ y.2.1 = l.take a ++ y.2.2.1 ++ x :: (y.2.2.2 ++ l.drop (i + 1))) (fun (y : Int × List Int × List Int × List Int) => (pu (pu (pu (pu (pu (pu (fun _ => .any) 0 (.sl 0 k l.length)) 1 (i64 a)) 2 (i64 b)) 3 (.fn (.func f) fi cap)) 8 (i64 i)) 9 (i64 y.1))) (fun (y : Int × List Int × List Int × List Int) => [.row k 3 1 (y.2.1.map tI)]) (fun (y : Int × List Int × List Int × List Int) => y.2.2.1.length) (((i : Int), M, S, [])) ?_ ?_ ?_
      · exact ⟨by dsimp only; omega, by simp, by simp, by simpa using hM⟩
      · exact Wk.cq 1
      · rintro ⟨j, M, S1, S2⟩ ⟨h4, h5, h6, h7⟩
        dsimp only at h4 h5 h6 h7 ⊢
        have hS12 : S1.length + S2.length = i - a := by rw [← hSl, ← h5, List.length_append]
        have hMl : M.length = l.length := by rw [h7]; simp only [List.length_append, List.length_cons, List.length_drop, hta]; omega
        have hMt : (M.map tI).length = l.length := by rw [List.length_map, hMl]
        have hP : (l.take a ++ S1).length = j.toNat := by rw [List.length_append, hta]; omega
        have hxj : M[j.toNat]? = some x := by rw [h7, List.getElem?_append_right (by omega), hP, Nat.sub_self]; rfl
        by_cases hS1 : S1 = []
        · subst hS1
          simp only [List.length_nil] at h4 hS12
          have hn2 : srt key l a (i + 1) = M := by rw [hnew, ← h5, insS_at (fun _ h => by simp at h) h6, h7]; simp
          repeat' (first | ((with_reducible refine kAL ?_); (first | refine A_mt rfl rfl rfl rfl ?_ | refine A_add rfl rfl 3 3 _ _ rfl rfl rfl (by exact wi) ?_ | refine A_as rfl rfl rfl rfl ?_ | refine AL.nil ?_)) | ((with_reducible refine kRG ?_); (first | refine R_mt rfl rfl rfl rfl ?_ | refine R_cmp (d := 20) rfl rfl (c := false) .gtr 3 3 _ _ rfl rfl rfl (by exact congrArg some (decide_eq_false (by (try (dsimp only; fail_if_success done)); omega))) ?_ | refine R_pick rfl rfl _ _ _ rfl rfl rfl rfl rfl ?_ | refine RG.nil ⟨by kernel_rfl, ?_⟩ | refine R_skip rfl rfl ?_)) | (with_reducible (first | refine wk0 ?_ | refine wk2 ?_ | refine wk4 ?_ | refine wk5 ?_ | refine wk7 ?_ | refine wkc ?_)) | refine kcf rfl ?_ | with_reducible refine AW.at_region _ ?_ | refine AW.at_draw 4 mixed 2 [[], [], [0, 1], [0, 1, 2], [0, 1, 2, 3], [0, 1, 2, 3], [0, 1, 2, 3], [0, 1, 2, 3, 5, 6], [0, 1, 2, 3, 5, 6, 7], [0, 1, 2, 3], [0, 1, 2, 3], [0, 1, 2, 3, 10], [0, 1, 2, 3, 9, 10, 11], [0, 1, 2, 3, 9, 10, 11, 12], [0, 1, 2, 3, 4, 5, 6, 7, 8, 9, 10, 11, 12, 13], [0, 1, 2, 3, 4, 5, 6, 7, 8, 9, 10, 11, 12, 13, 14], [0, 1, 2, 3, 4, 5, 6, 7, 8, 9, 10, 11, 12, 13, 14, 15]] qR ?_)
          all_goals first | (exfalso; omega) | skip
          refine ⟨(i + 1, M), .inr ⟨by dsimp only; omega, by dsimp only; omega, hn2.symm⟩, by dsimp only; omega, ?_⟩
          exact Wk.cq 1
        · obtain ⟨S0, y, rfl⟩ : ∃ S0 y, S1 = S0 ++ [y] := ⟨_, _, (List.dropLast_concat_getLast hS1).symm⟩
          have hyS : y ∈ S := by rw [← h5]; simp
          have hyl := hSm y hyS
          simp only [List.length_append, List.length_singleton] at h4 hS12
          have hP0 : (l.take a ++ S0).length = (j - 1).toNat := by rw [List.length_append, hta]; omega
          have h8 : M = (l.take a ++ S0) ++ y :: x :: (S2 ++ l.drop (i + 1)) := by rw [h7]; simp
          have hyj : M[(j - 1).toNat]? = some y := by rw [h8, List.getElem?_append_right (by omega), hP0, Nat.sub_self]; rfl
          obtain ⟨c, hc0, hcv⟩ := hg x hxl y hyl
          by_cases hk : key x < key y
          · have hcn := hc0.2 hk
            have hsw : (M.set j.toNat y).set (j - 1).toNat x = l.take a ++ S0 ++ x :: y :: (S2 ++ l.drop (i + 1)) := by rw [h8]; exact swap_at (by omega) (by omega)
            have hyj2 : (M.set j.toNat y)[(j - 1).toNat]? = some y := by rw [List.getElem?_set_ne (by omega), hyj]
            repeat' (first | ((with_reducible refine kAL ?_); (first | refine A_mt rfl rfl rfl rfl ?_ | refine A_sub rfl rfl 3 3 _ _ rfl rfl rfl (by exact wi) ?_ | refine A_as rfl rfl rfl rfl ?_ | refine AL.nil ?_)) | ((with_reducible refine kRG ?_); (first | (refine kR 0 rfl ?_; (first | refine R_mt rfl rfl rfl rfl ?_ | refine R_move rfl rfl _ (.inl rfl) (y := .sl _ _ _) rfl ?_ | refine R_move rfl rfl _ (.inl rfl) (y := .fn _ _ _) rfl ?_)) | (refine kR 105 rfl ?_; (first | refine R_cmp (d := 20) rfl rfl (c := true) .gtr 3 3 _ _ rfl rfl rfl (by exact congrArg some (decide_eq_true (by (try (dsimp only; fail_if_success done)); omega))) ?_ | refine R_sub rfl rfl 3 3 _ _ rfl rfl rfl (by first | exact wi | rfl) ?_ | refine R_cmp (d := 33) rfl rfl (c := true) .lss 3 3 _ _ rfl rfl rfl (by exact congrArg some (decide_eq_true (by (try (dsimp only; fail_if_success done)); omega))) ?_)) | (refine kR 710 rfl ?_; refine R_idx_sl rfl rfl 22 _ _ rfl ud22 inf3 rfl rfl (by (simp; omega)) rfl (by omega) _ (by exact rfl) (by omega) ?_) | refine R_load_rp rfl rfl 3 _ rfl ud3 rfl rfl rfl (by exact map_get (by assumption)) rfl ?_ | (refine kR 11 rfl ?_; (refine R_callv rfl rfl rfl rfl (hcv) (acc := _) rfl (fun h' hh => by ((repeat (first | exact .nil | refine .cons ?_ ?_ | exact .t _)); (first | done | fail))) rfl rfl ?_)) | refine R_pick rfl rfl _ _ _ rfl rfl rfl rfl rfl ?_ | (refine kR 99 rfl ?_; refine R_store_rp rfl rfl 3 _ _ rfl inf3 (by decide) rfl rfl (by exact map_get (by assumption)) rfl rfl rfl (Nat.le_of_ble_eq_true rfl) (by exact map_set (f := tI) (x := _)) qN ?_) | refine RG.nil ⟨by kernel_rfl, ?_⟩)) | (with_reducible (first | refine wk0 ?_ | refine wk1 ?_ | refine wk2 ?_ | refine wk5 ?_ | refine wkd ?_)) | refine kct rfl ?_ | with_reducible refine AW.at_region _ ?_ | refine AW.at_draw 4 mixed 2 [[], [], [0, 1], [0, 1, 2], [0, 1, 2, 3], [0, 1, 2, 3], [0, 1, 2, 3], [0, 1, 2, 3, 5, 6], [0, 1, 2, 3, 5, 6, 7], [0, 1, 2, 3], [0, 1, 2, 3], [0, 1, 2, 3, 10], [0, 1, 2, 3, 9, 10, 11], [0, 1, 2, 3, 9, 10, 11, 12], [0, 1, 2, 3, 4, 5, 6, 7, 8, 9, 10, 11, 12, 13], [0, 1, 2, 3, 4, 5, 6, 7, 8, 9, 10, 11, 12, 13, 14], [0, 1, 2, 3, 4, 5, 6, 7, 8, 9, 10, 11, 12, 13, 14, 15]] qR ?_ | refine AW.at_draw 6 mixed 0 [[], [], [], [], [3], [], [], [6], [5, 6, 7], [5, 6, 7, 8], [], [], [10, 11], [10, 11, 12], [0, 1, 5, 6, 7, 8, 9, 10, 11, 12, 13], [0, 1, 5, 6, 7, 8, 9, 10, 11, 12, 13, 14], [0, 1, 2, 3, 4, 5, 6, 7, 8, 9, 10, 11, 12, 13, 14, 15], [0, 1, 2, 3, 4, 5, 6, 7, 8, 9, 10, 11, 12, 13, 14, 15, 16]] qR ?_)
            all_goals first | (exfalso; omega) | skip
            rw [hsw]
            refine ⟨(j - 1, l.take a ++ S0 ++ x :: y :: (S2 ++ l.drop (i + 1)), S0, y :: S2), ⟨by dsimp only; omega, by rw [← h5]; simp, fun z hz => ?_, rfl⟩, by simp, ?_⟩
            · rcases List.mem_cons.1 hz with rfl | hz
              · exact hk
              · exact h6 z hz
            · exact Wk.cq 1
          · have hcn : ¬ c < 0 := fun h => hk (hc0.1 h)
            have hn2 : srt key l a (i + 1) = M := by
              rw [hnew, ← h5, insS_at (fun z hz => ?_) h6, h7]
              · simp
              · rw [← h5, List.append_assoc] at hSs
                have hp := (List.pairwise_append.1 hSs).2.2
                rcases List.mem_append.1 hz with hz | hz
                · have := hp z hz y (by simp); omega
                · simp at hz; subst hz; exact hk
            repeat' (first | ((with_reducible refine kAL ?_); (first | refine A_mt rfl rfl rfl rfl ?_ | refine A_add rfl rfl 3 3 _ _ rfl rfl rfl (by exact wi) ?_ | refine A_as rfl rfl rfl rfl ?_ | refine AL.nil ?_)) | ((with_reducible refine kRG ?_); (first | (refine kR 0 rfl ?_; (first | refine R_mt rfl rfl rfl rfl ?_ | refine R_move rfl rfl _ (.inl rfl) (y := .sl _ _ _) rfl ?_ | refine R_move rfl rfl _ (.inl rfl) (y := .fn _ _ _) rfl ?_)) | (refine kR 105 rfl ?_; (first | refine R_cmp (d := 20) rfl rfl (c := true) .gtr 3 3 _ _ rfl rfl rfl (by exact congrArg some (decide_eq_true (by (try (dsimp only; fail_if_success done)); omega))) ?_ | refine R_sub rfl rfl 3 3 _ _ rfl rfl rfl (by first | exact wi | rfl) ?_ | refine R_cmp (d := 33) rfl rfl (c := false) .lss 3 3 _ _ rfl rfl rfl (by exact congrArg some (decide_eq_false (by (try (dsimp only; fail_if_success done)); omega))) ?_)) | (refine kR 710 rfl ?_; refine R_idx_sl rfl rfl 22 _ _ rfl ud22 inf3 rfl rfl (by (simp; omega)) rfl (by omega) _ (by exact rfl) (by omega) ?_) | refine R_load_rp rfl rfl 3 _ rfl ud3 rfl rfl rfl (by exact map_get (by assumption)) rfl ?_ | (refine kR 11 rfl ?_; (refine R_callv rfl rfl rfl rfl (hcv) (acc := _) rfl (fun h' hh => by ((repeat (first | exact .nil | refine .cons ?_ ?_ | exact .t _)); (first | done | fail))) rfl rfl ?_)) | refine R_pick rfl rfl _ _ _ rfl rfl rfl rfl rfl ?_ | refine RG.nil ⟨by kernel_rfl, ?_⟩)) | (with_reducible (first | refine wk0 ?_ | refine wk2 ?_ | refine wk4 ?_ | refine wk5 ?_ | refine wk7 ?_ | refine wkc ?_)) | refine kcf rfl ?_ | with_reducible refine AW.at_region _ ?_ | refine AW.at_draw 4 mixed 2 [[], [], [0, 1], [0, 1, 2], [0, 1, 2, 3], [0, 1, 2, 3], [0, 1, 2, 3], [0, 1, 2, 3, 5, 6], [0, 1, 2, 3, 5, 6, 7], [0, 1, 2, 3], [0, 1, 2, 3], [0, 1, 2, 3, 10], [0, 1, 2, 3, 9, 10, 11], [0, 1, 2, 3, 9, 10, 11, 12], [0, 1, 2, 3, 4, 5, 6, 7, 8, 9, 10, 11, 12, 13], [0, 1, 2, 3, 4, 5, 6, 7, 8, 9, 10, 11, 12, 13, 14], [0, 1, 2, 3, 4, 5, 6, 7, 8, 9, 10, 11, 12, 13, 14, 15]] qR ?_)
            all_goals first | (exfalso; omega) | skip
            refine ⟨(i + 1, M), .inr ⟨by dsimp only; omega, by dsimp only; omega, hn2.symm⟩, by dsimp only; omega, ?_⟩
            exact Wk.cq 1
    · have hM : M = srt key l a b := by
        rcases hi with ⟨_, _, h⟩ | ⟨_, h2, h⟩
        · exact h
        · obtain rfl : i = b := by omega
          exact h
      subst hM
      repeat' (first | ((with_reducible refine kAL ?_); (first | refine A_mt rfl rfl rfl rfl ?_ | refine A_cmp (d := 14) rfl rfl (c := false) .lss 3 3 _ _ rfl rfl rfl (by exact congrArg some (decide_eq_false (by (try (dsimp only; fail_if_success done)); omega))) ?_ | refine AL.nil ?_)) | (with_reducible (first | refine wk0 ?_ | refine wk2 ?_ | refine wk4 ?_ | refine wk7 ?_ | refine wka ?_ | refine wkc ?_)) | refine kcf rfl ?_ | with_reducible refine AW.at_region _ ?_)
      all_goals first | (exfalso; omega) | (exact Fin.q Try.results123 .nil [])
theorem swp_of {l : List Int} {i j : Nat} {x y : Int} (hx : l[i]? = some x) (hy : l[j]? = some y) : (l.set i y).set j x = swp l i j := by
  unfold swp; rw [List.getD_eq_getElem?_getD, List.getD_eq_getElem?_getD, hx, hy]; rfl
set_option maxHeartbeats 8000000 in
theorem swapRange_c (g : AV) (hup : upB (keepG 1) g = g) (l : List Int) (k a b n : Nat) (hab : a + n ≤ b) (hb : b + n ≤ l.length) (hl : l.length ≤ 1152921504606846976) :
    Cio Try.prog 127 [.sl 0 k l.length, i64 a, i64 b, i64 n, g] [.row k 3 1 (l.map tI)] (.tup []) [.row k 3 1 ((swr l a b n).map tI)] := by
  refine Cio.enter' Try.func127 rfl Try.ntmps127 rfl qM ?_
  repeat' (first | ((with_reducible refine kAL ?_); (first | refine A_as rfl rfl rfl rfl ?_ | refine AL.nil ?_)) | (with_reducible (first | refine wk0 ?_ | refine wk1 ?_ | refine wk2 ?_)) | with_reducible refine AW.at_region _ ?_)
  refine AW.loopP (fun (x : Nat × List Int) => x.1 ≤ n ∧ x.2.length = l.length ∧ swr x.2 (a + x.1) (b + x.1) (n - x.1) = swr l a b n) (fun (x : Nat × List Int) => (pu (pu (pu (pu (pu (fun _ => .any) 0 (.sl 0 k l.length)) 1 (i64 a)) 2 (i64 b)) 3 (i64 n)) 10 (i64 x.1))) (fun (x : Nat × List Int) => [.row k 3 1 (x.2.map tI)]) (fun (x : Nat × List Int) => n - x.1) ((0, l)) ?_ ?_ ?_
  · exact ⟨Nat.zero_le _, rfl, rfl⟩
  · exact Wk.cq 1
  · rintro ⟨i, M⟩ ⟨h1, h2, h3⟩
    dsimp only at h1 h2 h3 ⊢
    have hMt : (M.map tI).length = l.length := by rw [List.length_map, h2]
    by_cases hi : i < n
    · have e1 : ((a : Int) + (i : Int)).toNat = a + i := by omega
      have e2 : ((b : Int) + (i : Int)).toNat = b + i := by omega
      obtain ⟨x, hx⟩ : ∃ x, M[((a : Int) + (i : Int)).toNat]? = some x := ⟨_, List.getElem?_eq_getElem (by omega)⟩
      obtain ⟨y, hy⟩ : ∃ y, M[((b : Int) + (i : Int)).toNat]? = some y := ⟨_, List.getElem?_eq_getElem (by omega)⟩
      have hy2 : (M.set ((a : Int) + (i : Int)).toNat y)[((b : Int) + (i : Int)).toNat]? = some y := by rw [List.getElem?_set_ne (by omega), hy]
      have hs := swp_of hx hy
      rw [show n - i = (n - (i + 1)) + 1 by omega, swr, ← e1, ← e2, ← hs, e1, e2] at h3
      skip
      repeat' (first | ((with_reducible refine kAL ?_); (first | refine A_as rfl rfl rfl rfl ?_ | refine A_mt rfl rfl rfl rfl ?_ | (refine kL 105 rfl ?_; (first | refine A_cmp (d := 13) rfl rfl (c := true) .lss 3 3 _ _ rfl rfl rfl (by exact congrArg some (decide_eq_true (by (try (dsimp only; fail_if_success done)); omega))) ?_ | refine A_add rfl rfl 3 3 _ _ rfl rfl rfl (by exact wi) ?_)) | refine AL.nil ?_)) | ((with_reducible refine kRG ?_); (first | (refine kR 0 rfl ?_; (first | refine R_mt rfl rfl rfl rfl ?_ | refine R_move rfl rfl _ (.inl rfl) (y := .sl _ _ _) rfl ?_)) | refine R_add rfl rfl 3 3 _ _ rfl rfl rfl (by exact wi) ?_ | (refine kR 710 rfl ?_; refine R_idx_sl rfl rfl 22 _ _ rfl ud22 inf3 rfl rfl (by (simp; omega)) rfl (by omega) _ (by exact rfl) (by omega) ?_) | refine R_load_rp rfl rfl 3 _ rfl ud3 rfl rfl rfl (by exact map_get (by assumption)) rfl ?_ | (refine kR 99 rfl ?_; refine R_store_rp rfl rfl 3 _ _ rfl inf3 (by decide) rfl rfl (by exact map_get (by assumption)) rfl rfl rfl (Nat.le_of_ble_eq_true rfl) (by exact map_set (f := tI) (x := _)) qN ?_) | refine RG.nil ⟨by kernel_rfl, ?_⟩)) | (with_reducible (first | refine wk0 ?_ | refine wk1 ?_ | refine wk2 ?_ | refine wk5 ?_ | refine wkd ?_)) | refine kct rfl ?_ | with_reducible refine AW.at_region _ ?_ | refine AW.at_draw 3 mixed 0 [[], [], [], [1, 2], [], [], [], [5, 6], [], [], [], [9, 10], [8, 9, 10, 11], [8, 9, 10, 11, 12], [], [], [], [15, 16], [14, 15, 16, 17], [14, 15, 16, 17, 18], [0, 1, 2, 3, 8, 9, 10, 11, 12, 13, 14, 15, 16, 17, 18, 19], [0, 1, 2, 3, 8, 9, 10, 11, 12, 13, 14, 15, 16, 17, 18, 19, 20], [0, 1, 2, 3, 4, 5, 6, 7, 8, 9, 10, 11, 12, 13, 14, 15, 16, 17, 18, 19, 20, 21], [0, 1, 2, 3, 4, 5, 6, 7, 8, 9, 10, 11, 12, 13, 14, 15, 16, 17, 18, 19, 20, 21, 22]] qR ?_)
      all_goals first | (exfalso; omega) | skip
      refine ⟨(i + 1, (M.set ((a : Int) + (i : Int)).toNat y).set ((b : Int) + (i : Int)).toNat x), ⟨by dsimp only; omega, by simp [h2], by dsimp only; rw [← h3, e1, e2]; rfl⟩, by dsimp only; omega, ?_⟩
      exact Wk.cq 1
    · obtain rfl : i = n := by omega
      rw [Nat.sub_self, swr] at h3
      subst h3
      repeat' (first | ((with_reducible refine kAL ?_); (first | refine A_mt rfl rfl rfl rfl ?_ | refine A_cmp (d := 13) rfl rfl (c := false) .lss 3 3 _ _ rfl rfl rfl (by exact congrArg some (decide_eq_false (by (try (dsimp only; fail_if_success done)); omega))) ?_ | refine AL.nil ?_)) | (with_reducible (first | refine wk0 ?_ | refine wk2 ?_ | refine wk4 ?_ | refine wk7 ?_ | refine wka ?_ | refine wkc ?_)) | refine kcf rfl ?_ | with_reducible refine AW.at_region _ ?_)
      all_goals first | (exfalso; omega) | (exact Fin.q Try.results127 .nil [])
set_option maxHeartbeats 8000000 in
theorem rotate_c (f : FuncId) (fi cap : List AV) (hup : upB (keepG 1) (.fn (.func f) fi cap) = .fn (.func f) fi cap) (hps : ∀ heap sel, Pass heap sel (.fn (.func f) fi cap) (.fn (.func f) fi cap)) (l : List Int) (k a m b : Nat) (ham : a < m) (hmb : m < b) (hb : b ≤ l.length) (hl : l.length ≤ 1152921504606846976) :
    Cio Try.prog 126 [.sl 0 k l.length, i64 a, i64 m, i64 b, .fn (.func f) fi cap] [.row k 3 1 (l.map tI)] (.tup []) [.row k 3 1 ((rot l a m b).map tI)] := by
  refine Cio.enter' Try.func126 rfl Try.ntmps126 rfl qM ?_
  repeat' (first | ((with_reducible refine kAL ?_); (first | refine A_mt rfl rfl rfl rfl ?_ | refine A_sub rfl rfl 3 3 _ _ rfl rfl rfl (by exact wi) ?_ | refine A_as rfl rfl rfl rfl ?_ | refine AL.nil ?_)) | with_reducible refine AW.at_region _ ?_ | (with_reducible (first | refine wk0 ?_ | refine wk1 ?_ | refine wk2 ?_)))
  refine AW.loopP (fun (x : List Int × List Int × List Int × List Int × List Int) => x.1 = x.2.1 ++ x.2.2.1 ++ x.2.2.2.1 ++ x.2.2.2.2 ∧ x.2.1 ++ x.2.2.2.1 ++ x.2.2.1 ++ x.2.2.2.2 = rot l a m b ∧ x.2.1.length + x.2.2.1.length = m ∧ 0 < x.2.2.1.length ∧ 0 < x.2.2.2.1.length ∧ x.1.length = l.length) (fun (x : List Int × List Int × List Int × List Int × List Int) => (pu (pu (pu (pu (pu (fun _ => .any) 0 (.sl 0 k l.length)) 2 (i64 m)) 4 (.fn (.func f) fi cap)) 10 (i64 (x.2.2.1.length : Nat))) 11 (i64 (x.2.2.2.1.length : Nat)))) (fun (x : List Int × List Int × List Int × List Int × List Int) => [.row k 3 1 (x.1.map tI)]) (fun (x : List Int × List Int × List Int × List Int × List Int) => x.2.2.1.length + x.2.2.2.1.length) ((l, l.take a, seg l a m, seg l m b, l.drop b)) ?_ ?_ ?_
  · refine ⟨split4 (by omega) (by omega), rfl, ?_, ?_, ?_, rfl⟩
    · dsimp only; rw [List.length_take, seg_len (by omega)]; omega
    · dsimp only; rw [seg_len (by omega)]; omega
    · dsimp only; rw [seg_len (by omega)]; omega
  · rw [show ((seg l a m).length : Int) = (m : Int) - a by rw [seg_len (by omega)]; omega, show ((seg l m b).length : Int) = (b : Int) - m by rw [seg_len (by omega)]; omega]
    exact Wk.cq 1
  · rintro ⟨M, P, X, Y, S⟩ ⟨h1, h2, h3, h4, h5, h6⟩
    dsimp only at h1 h2 h3 h4 h5 h6 ⊢
    have hML : P.length + X.length + Y.length + S.length = l.length := by rw [← h6, h1]; simp only [List.length_append]
    have hMt : (M.map tI).length = l.length := by rw [List.length_map, h6]
    obtain ⟨p, hp⟩ : ∃ p, p = P.length := ⟨_, rfl⟩
    have ep : (p : Int) = (m : Int) - (X.length : Nat) := by omega
    rcases Nat.lt_trichotomy X.length Y.length with hxy | hxy | hxy
    · -- i < j
      obtain ⟨q, hq⟩ : ∃ q, q = Y.length - X.length := ⟨_, rfl⟩
      have hY : Y = Y.take q ++ Y.drop q := (List.take_append_drop _ _).symm
      have ly1 : (Y.take q).length = q := by rw [List.length_take]; omega
      have ly2 : (Y.drop q).length = X.length := by rw [List.length_drop]; omega
      have c1 := swapRange_c (.fn (.func f) fi cap) hup M k p (m + q) X.length (by omega) (by omega) (by omega)
      have e1 : swr M p (m + q) X.length = P ++ Y.drop q ++ Y.take q ++ (X ++ S) := by
        have := swr_at (P := P) (X := X) (M := Y.take q) (Y := Y.drop q) (S := S) (a := p) (b := m + q) (n := X.length) hp (by omega) rfl ly2.symm
        rw [h1]
        conv => lhs; rw [hY]
        rw [← List.append_assoc (P ++ X), this]; simp [List.append_assoc]
      rw [e1, h6, ep, show ((m + q : Nat) : Int) = (m : Int) + (Y.length : Nat) - (X.length : Nat) by omega] at c1
      repeat' (first | ((with_reducible refine kAL ?_); (first | (refine kL 0 rfl ?_; (first | refine A_mt rfl rfl rfl rfl ?_ | refine A_move rfl rfl _ (.inl rfl) (y := .sl _ _ _) rfl ?_ | refine A_move rfl rfl _ (.inl rfl) (y := .fn _ _ _) rfl ?_)) | (refine kL 105 rfl ?_; (first | refine A_sub rfl rfl 3 3 _ _ rfl rfl rfl (by first | exact wi | rfl) ?_ | refine A_cmp (d := 20) rfl rfl (c := true) .neq 3 3 _ _ rfl rfl rfl (by exact congrArg some (decide_eq_true (by (try (dsimp only; fail_if_success done)); omega))) ?_ | refine A_cmp (d := 23) rfl rfl (c := false) .gtr 3 3 _ _ rfl rfl rfl (by exact congrArg some (decide_eq_false (by (try (dsimp only; fail_if_success done)); omega))) ?_ | refine A_add rfl rfl 3 3 _ _ rfl rfl rfl (by exact wi) ?_)) | refine A_as rfl rfl rfl rfl ?_ | (refine kL 4074 rfl ?_; refine A_callio rfl rfl Try.func127 (by kernel_rfl) (by kernel_rfl) rfl [0] (by decide) (c1) (by repeat (first | exact .nil | refine .cons rfl ?_ ?_ | exact .row)) (by ((repeat (first | exact .nil | exact .sel rfl | refine .cons ?_ ?_ | exact .t _ | exact hps _ _)); (first | done | fail))) qL (by (try simp only [setSel, upO, upA, upF, gIO, List.map_cons, List.map_nil, List.drop_succ_cons, List.drop_zero, List.drop_nil, List.length_cons, List.length_nil, List.set_cons_zero, List.set_cons_succ, List.cons_append, List.nil_append, List.append_nil, List.getElem?_cons_zero, List.getElem?_cons_succ, List.getElem?_nil, Nat.zero_add, Nat.reduceAdd, Nat.reduceSub]); rfl) (by (try simp only [setSel, upO, upA, upF, gIO, List.map_cons, List.map_nil, List.drop_succ_cons, List.drop_zero, List.drop_nil, List.length_cons, List.length_nil, List.set_cons_zero, List.set_cons_succ, List.cons_append, List.nil_append, List.append_nil, List.getElem?_cons_zero, List.getElem?_cons_succ, List.getElem?_nil, Nat.zero_add, Nat.reduceAdd, Nat.reduceSub]); rfl) ?_) | refine AL.nil ?_)) | with_reducible refine AW.at_region _ ?_ | (with_reducible (first | refine wk0 ?_ | refine wk1 ?_ | refine wk2 ?_ | refine wk5 ?_ | refine wkd ?_)) | refine kct rfl ?_ | refine kcf rfl ?_)
      all_goals first | (exfalso; omega) | skip
      refine ⟨(P ++ Y.drop q ++ Y.take q ++ (X ++ S), P, Y.drop q, Y.take q, X ++ S), ⟨rfl, ?_, by dsimp only; omega, by dsimp only; omega, by dsimp only; omega, ?_⟩, by dsimp only; omega, ?_⟩
      · dsimp only; rw [← h2]; conv => rhs; rw [hY]
        simp [List.append_assoc]
      · dsimp only; simp only [List.length_append, ly1, ly2]; omega
      · dsimp only; rw [ly1, ly2, show (q : Int) = (Y.length : Nat) - (X.length : Nat) by omega]
        exact Wk.cq 1
    · -- i = j
      have c1 := swapRange_c (.fn (.func f) fi cap) hup M k p m X.length (by omega) (by omega) (by omega)
      have e1 : swr M p m X.length = rot l a m b := by
        have := swr_at (P := P) (X := X) (M := []) (Y := Y) (S := S) (a := p) (b := m) (n := X.length) hp (by simp; omega) rfl hxy
        rw [h1, ← h2]
        simpa using this
      rw [e1, h6, ep] at c1
      repeat' (first | ((with_reducible refine kAL ?_); (first | (refine kL 0 rfl ?_; (first | refine A_mt rfl rfl rfl rfl ?_ | refine A_move rfl rfl _ (.inl rfl) (y := .sl _ _ _) rfl ?_ | refine A_move rfl rfl _ (.inl rfl) (y := .fn _ _ _) rfl ?_)) | (refine kL 105 rfl ?_; (first | refine A_sub rfl rfl 3 3 _ _ rfl rfl rfl (by first | exact wi | rfl) ?_ | refine A_cmp (d := 20) rfl rfl (c := false) .neq 3 3 _ _ rfl rfl rfl (by exact congrArg some (decide_eq_false (by (try (dsimp only; fail_if_success done)); omega))) ?_)) | (refine kL 4074 rfl ?_; refine A_callio rfl rfl Try.func127 (by kernel_rfl) (by kernel_rfl) rfl [0] (by decide) (c1) (by repeat (first | exact .nil | refine .cons rfl ?_ ?_ | exact .row)) (by ((repeat (first | exact .nil | exact .sel rfl | refine .cons ?_ ?_ | exact .t _ | exact hps _ _)); (first | done | fail))) qL (by (try simp only [setSel, upO, upA, upF, gIO, List.map_cons, List.map_nil, List.drop_succ_cons, List.drop_zero, List.drop_nil, List.length_cons, List.length_nil, List.set_cons_zero, List.set_cons_succ, List.cons_append, List.nil_append, List.append_nil, List.getElem?_cons_zero, List.getElem?_cons_succ, List.getElem?_nil, Nat.zero_add, Nat.reduceAdd, Nat.reduceSub]); rfl) (by (try simp only [setSel, upO, upA, upF, gIO, List.map_cons, List.map_nil, List.drop_succ_cons, List.drop_zero, List.drop_nil, List.length_cons, List.length_nil, List.set_cons_zero, List.set_cons_succ, List.cons_append, List.nil_append, List.append_nil, List.getElem?_cons_zero, List.getElem?_cons_succ, List.getElem?_nil, Nat.zero_add, Nat.reduceAdd, Nat.reduceSub]); rfl) ?_) | refine AL.nil ?_)) | with_reducible refine AW.at_region _ ?_ | (with_reducible (first | refine wk0 ?_ | refine wk2 ?_ | refine wk4 ?_ | refine wk7 ?_ | refine wka ?_ | refine wkc ?_)) | refine kcf rfl ?_)
      all_goals first | (exfalso; omega) | (exact Fin.q Try.results126 .nil [])
    · -- i > j
      obtain ⟨q, hq⟩ : ∃ q, q = Y.length := ⟨_, rfl⟩
      have hX : X = X.take q ++ X.drop q := (List.take_append_drop _ _).symm
      have lx1 : (X.take q).length = q := by rw [List.length_take]; omega
      have lx2 : (X.drop q).length = X.length - Y.length := by rw [List.length_drop]; omega
      have c1 := swapRange_c (.fn (.func f) fi cap) hup M k p m Y.length (by omega) (by omega) (by omega)
      have e1 : swr M p m Y.length = (P ++ Y) ++ X.drop q ++ X.take q ++ S := by
        have := swr_at (P := P) (X := X.take q) (M := X.drop q) (Y := Y) (S := S) (a := p) (b := m) (n := Y.length) hp (by omega) (by omega) rfl
        rw [h1]
        conv => lhs; rw [hX]
        rw [← List.append_assoc P, this]
      rw [e1, h6, ep] at c1
      repeat' (first | ((with_reducible refine kAL ?_); (first | (refine kL 0 rfl ?_; (first | refine A_mt rfl rfl rfl rfl ?_ | refine A_move rfl rfl _ (.inl rfl) (y := .sl _ _ _) rfl ?_ | refine A_move rfl rfl _ (.inl rfl) (y := .fn _ _ _) rfl ?_)) | (refine kL 105 rfl ?_; (first | refine A_sub rfl rfl 3 3 _ _ rfl rfl rfl (by first | exact wi | rfl) ?_ | refine A_cmp (d := 20) rfl rfl (c := true) .neq 3 3 _ _ rfl rfl rfl (by exact congrArg some (decide_eq_true (by (try (dsimp only; fail_if_success done)); omega))) ?_ | refine A_cmp (d := 23) rfl rfl (c := true) .gtr 3 3 _ _ rfl rfl rfl (by exact congrArg some (decide_eq_true (by (try (dsimp only; fail_if_success done)); omega))) ?_)) | refine A_as rfl rfl rfl rfl ?_ | (refine kL 4074 rfl ?_; refine A_callio rfl rfl Try.func127 (by kernel_rfl) (by kernel_rfl) rfl [0] (by decide) (c1) (by repeat (first | exact .nil | refine .cons rfl ?_ ?_ | exact .row)) (by ((repeat (first | exact .nil | exact .sel rfl | refine .cons ?_ ?_ | exact .t _ | exact hps _ _)); (first | done | fail))) qL (by (try simp only [setSel, upO, upA, upF, gIO, List.map_cons, List.map_nil, List.drop_succ_cons, List.drop_zero, List.drop_nil, List.length_cons, List.length_nil, List.set_cons_zero, List.set_cons_succ, List.cons_append, List.nil_append, List.append_nil, List.getElem?_cons_zero, List.getElem?_cons_succ, List.getElem?_nil, Nat.zero_add, Nat.reduceAdd, Nat.reduceSub]); rfl) (by (try simp only [setSel, upO, upA, upF, gIO, List.map_cons, List.map_nil, List.drop_succ_cons, List.drop_zero, List.drop_nil, List.length_cons, List.length_nil, List.set_cons_zero, List.set_cons_succ, List.cons_append, List.nil_append, List.append_nil, List.getElem?_cons_zero, List.getElem?_cons_succ, List.getElem?_nil, Nat.zero_add, Nat.reduceAdd, Nat.reduceSub]); rfl) ?_) | refine AL.nil ?_)) | with_reducible refine AW.at_region _ ?_ | (with_reducible (first | refine wk0 ?_ | refine wk1 ?_ | refine wk2 ?_ | refine wk5 ?_ | refine wkd ?_)) | refine kct rfl ?_)
      all_goals first | (exfalso; omega) | skip
      refine ⟨((P ++ Y) ++ X.drop q ++ X.take q ++ S, P ++ Y, X.drop q, X.take q, S), ⟨rfl, ?_, ?_, by dsimp only; omega, by dsimp only; omega, ?_⟩, by dsimp only; omega, ?_⟩
      · dsimp only; rw [← h2]; conv => rhs; rw [hX]
        simp [List.append_assoc]
      · dsimp only; rw [List.length_append, lx2]; omega
      · dsimp only; simp only [List.length_append, lx1, lx2]; omega
      · dsimp only; rw [lx1, lx2, show ((X.length - Y.length : Nat) : Int) = (X.length : Nat) - (Y.length : Nat) by omega, hq]
        exact Wk.cq 1
end Go.Proofs.Ytphcebioiipdpaa


namespace Go.Proofs.Ytphcebioiipdpaa
set_option linter.unusedVariables false
set_option linter.unusedSimpArgs false
set_option linter.unnecessarySimpa false
open Go.RowKit
set_option maxHeartbeats 32000000
attribute [local irreducible] AL AW RG Fin C Cd Cio thenQ blockQ retQ
set_option maxRecDepth 100000
theorem containsF_c (f : FuncId) (fi cap : List AV) (p : DCase → Bool) (hg : ∀ c : DCase, CV Try.prog (.fn (.func f) fi cap) [.agg ((tCs c).map .t)] (.t (.v (.bool (p c)))) []) (hup : upB (keepG 0) (.fn (.func f) fi cap) = .fn (.func f) fi cap) (hps : ∀ heap sel, Pass heap sel (.fn (.func f) fi cap) (.fn (.func f) fi cap))
    (l : List DCase) (hl : l.length ≤ 1152921504606846976) : Cd Try.prog 82 [.ln (l.map tCs), .fn (.func f) fi cap] (bo (decide (0 ≤ ixF p l))) [] := by
  have c1 := idxF_c f fi cap p hg hup l hl
  refine Cd.enter' Try.func82 rfl Try.ntmps82 rfl ?_
  by_cases h : 0 ≤ ixF p l
  all_goals
    repeat' (first | ((with_reducible refine kAL ?_); (first | refine A_as rfl rfl rfl rfl ?_ | (refine kL 0 rfl ?_; (first | refine A_move rfl rfl _ (.inl rfl) (y := .ln _) rfl ?_ | refine A_move rfl rfl _ (.inl rfl) (y := .fn _ _ _) rfl ?_)) | (refine kL 3338 rfl ?_; refine A_cl rfl rfl Try.func104 rfl (c1) ?_) | (refine kL 105 rfl ?_; (first | refine A_cmp (d := 8) rfl rfl (c := true) .geq 3 3 _ _ rfl rfl rfl (by exact congrArg some (decide_eq_true (by (try (dsimp only; fail_if_success done)); omega))) ?_ | refine A_cmp (d := 8) rfl rfl (c := false) .geq 3 3 _ _ rfl rfl rfl (by exact congrArg some (decide_eq_false (by (try (dsimp only; fail_if_success done)); omega))) ?_)) | refine AL.nil ?_)) | with_reducible refine AW.at_region _ ?_ | (with_reducible (first | refine wk0 ?_ | refine wk2 ?_ | refine wk9 ?_ | refine wkb ?_)))
    all_goals first | (exfalso; omega) | (refine Fin.q Try.results82 (.cons (.tmp rfl) .nil) [] (hr := (.t ?_)))
    all_goals first | (simp [h]; done) | skip
def isH (h : Int) (c : DCase) : Bool := decide (c.handle = h)
theorem on1_c (h : Int) (c : DCase) : Cd Try.prog 106 [.agg ((tCs c).map .t), .lp [i64 h]] (bo (isH h c)) [] := by
  obtain ⟨a, b, v⟩ := c
  by_cases p2 : b = h
  all_goals
    refine Cd.enter' Try.func106 rfl Try.ntmps106 rfl ?_
    repeat' (first | ((with_reducible refine kAL ?_); (first | refine A_box rfl rfl 45 _ rfl rfl (.push qL qN) ?_ | refine A_as rfl rfl rfl rfl ?_ | refine A_field rfl rfl 45 _ 1 rfl ud45 rfl inf3 (by decide) 1 rfl rfl ?_ | (refine kL 98 rfl ?_; (first | refine A_load rfl rfl 3 _ rfl ud3 rfl rfl rfl rfl ?_ | refine A_load_lp rfl rfl 3 _ rfl ud3 rfl rfl rfl ?_)) | (refine kL 105 rfl ?_; (first | refine A_cmp (d := 7) rfl rfl (c := true) .eql 3 3 _ _ rfl rfl rfl (by exact congrArg some (decide_eq_true (by (try (dsimp only; fail_if_success done)); omega))) ?_ | refine A_cmp (d := 7) rfl rfl (c := false) .eql 3 3 _ _ rfl rfl rfl (by exact congrArg some (decide_eq_false (by (try (dsimp only; fail_if_success done)); omega))) ?_)) | refine AL.nil ?_)) | with_reducible refine AW.at_region _ ?_ | (with_reducible (first | refine wk0 ?_ | refine wk2 ?_ | refine wk9 ?_ | refine wkb ?_)))
    all_goals first | (exfalso; omega) | (refine Fin.q Try.results106 (.cons (.tmp rfl) .nil) [] (hr := (.t ?_)))
    all_goals first | (simp [isH, *]; done) | skip
theorem isNaN_c (x : Int) : Cd Try.prog 119 [i64 x] (bo false) [] := by
  refine Cd.enter' Try.func119 rfl Try.ntmps119 rfl ?_
  repeat' (first | ((with_reducible refine kAL ?_); (first | refine A_as rfl rfl rfl rfl ?_ | refine A_mt rfl rfl rfl rfl ?_ | refine A_cmp (d := 5) rfl rfl (c := false) .neq 3 3 _ _ rfl rfl rfl (by exact congrArg some (decide_eq_false (by (try (dsimp only; fail_if_success done)); omega))) ?_ | refine AL.nil ?_)) | with_reducible refine AW.at_region _ ?_ | (with_reducible (first | refine wk0 ?_ | refine wk2 ?_ | refine wk9 ?_ | refine wkb ?_)))
  all_goals (exact Fin.q Try.results119 (.cons (.tmp rfl) .nil) [])
def cmp3 (a b : Int) : Int := if a < b then -1 else if a > b then 1 else 0
theorem compare_c (a b : Int) : Cd Try.prog 109 [i64 a, i64 b] (i64 (cmp3 a b)) [] := by
  refine Cd.enter' Try.func109 rfl Try.ntmps109 rfl ?_
  repeat' (first | ((with_reducible refine kAL ?_); (first | refine A_as rfl rfl rfl rfl ?_ | refine A_mt rfl rfl rfl rfl ?_ | (refine kL 3818 rfl ?_; refine A_cl rfl rfl Try.func119 rfl (isNaN_c _) ?_) | (refine kL 105 rfl ?_; (first | refine A_cmp (d := 16) rfl rfl .lss 3 3 _ _ rfl rfl rfl rfl ?_ | refine A_cmp (d := 19) rfl rfl .gtr 3 3 _ _ rfl rfl rfl rfl ?_)) | refine AL.nil ?_)) | with_reducible refine AW.at_region _ ?_ | (with_reducible (first | refine wk0 ?_ | refine wk2 ?_ | refine wk3 ?_ | refine wk9 ?_ | refine wkb ?_ | refine wkd ?_)) | refine kcf rfl ?_ | refine kcp rfl (fun hc => ?_) (fun hc => ?_))
  · rw [show cmp3 a b = -1 from if_pos hc]
    exact Fin.q Try.results109 (.cons (.tmp rfl) .nil) []
  · rename_i h1
    rw [show cmp3 a b = 1 by unfold cmp3; rw [if_neg h1, if_pos hc]]
    exact Fin.q Try.results109 (.cons (.tmp rfl) .nil) []
  · rename_i h1
    rw [show cmp3 a b = 0 by unfold cmp3; rw [if_neg h1, if_neg hc]]
    exact Fin.q Try.results109 (.cons (.tmp rfl) .nil) []
theorem on2_c (l : List DWait) (x y : Nat) (a b : DWait) (ha : l[x]? = some a) (hb : l[y]? = some b) : Cd Try.prog 108 [i64 x, i64 y, .lp [.ln (l.map tWt)]] (i64 (cmp3 a.ticket b.ticket)) [] := by
  have h1 : (l.map tWt).length = l.length := List.length_map _
  have h2 := get_lt ha
  have h3 := get_lt hb
  refine Cd.enter' Try.func108 rfl Try.ntmps108 rfl ?_
  repeat' (first | ((with_reducible refine kAL ?_); (first | refine A_as rfl rfl rfl rfl ?_ | refine AL.nil ?_)) | ((with_reducible refine kRG ?_); (first | refine R_load_lp rfl rfl 26 _ rfl ud26 rfl rfl rfl ?_ | refine R_mt rfl rfl rfl rfl ?_ | (refine kR 838 rfl ?_; refine R_idx rfl rfl 26 _ _ rfl ud26 inf43 (by decide) (by exact .inl rfl) rfl (by omega) _ (by with_reducible exact Int.toNat_natCast _) (by exact map_get (by assumption)) rfl (cs' := [_, _, _, _]) rfl ?_) | refine R_field rfl rfl 43 _ 1 rfl ud43 rfl inf3 (by decide) 1 rfl rfl ?_ | refine R_load_lp rfl rfl 3 _ rfl ud3 rfl rfl rfl ?_ | (refine kR 3498 rfl ?_; (refine R_cl rfl rfl Try.func109 rfl (compare_c a.ticket b.ticket) ?_; refine ⟨0, _, _, _, rfl, qU, qU, qZ, ?_⟩)) | refine R_as rfl rfl rfl rfl ?_ | refine RG.nil ⟨by kernel_rfl, ?_⟩)) | (with_reducible (first | refine wk0 ?_ | refine wk2 ?_ | refine wk9 ?_ | refine wkb ?_)) | with_reducible refine AW.at_region _ ?_ | refine AW.at_draw 1 mixed 0 [[], [], [0, 1], [0, 1, 2], [0, 1, 2, 3], [], [], [5, 6], [5, 6, 7], [5, 6, 7, 8], [0, 1, 2, 3, 4, 5, 6, 7, 8, 9], [0, 1, 2, 3, 4, 5, 6, 7, 8, 9, 10]] qR ?_)
  all_goals first | (exfalso; omega) | (exact Fin.q Try.results108 (.cons (.tmp rfl) .nil) [])
def tick (l : List DWait) (t : Int) : Int := (l.getD t.toNat default).ticket
theorem on_cmp (l : List DWait) (O : List Int) (hO : ∀ z ∈ O, 0 ≤ z ∧ z < l.length) : CmpV (.fn (.func 108) [] [.lp [.ln (l.map tWt)]]) (tick l) O := fun x hx y hy => by
  obtain ⟨x1, x2⟩ := hO x hx
  obtain ⟨y1, y2⟩ := hO y hy
  obtain ⟨m, rfl⟩ : ∃ m : Nat, x = m := ⟨x.toNat, by omega⟩
  obtain ⟨n, rfl⟩ : ∃ n : Nat, y = n := ⟨y.toNat, by omega⟩
  obtain ⟨a, ha⟩ : ∃ a, l[m]? = some a := ⟨_, List.getElem?_eq_getElem (by omega)⟩
  obtain ⟨b, hb⟩ : ∃ b, l[n]? = some b := ⟨_, List.getElem?_eq_getElem (by omega)⟩
  refine ⟨cmp3 a.ticket b.ticket, ?_, ⟨_, _, [], [.lp [.ln (l.map tWt)]], rfl, Try.func108, by kernel_rfl, by kernel_rfl, fun _ => .nil, fun _ => .cons (.lpL (.cons (.ln _) .nil)) .nil, on2_c l m n a b ha hb⟩⟩
  unfold tick cmp3
  rw [Int.toNat_natCast, Int.toNat_natCast, getD_of ha, getD_of hb]
  repeat' split
  all_goals omega
end Go.Proofs.Ytphcebioiipdpaa


namespace Go.Proofs.Ytphcebioiipdpaa
set_option linter.unusedVariables false
set_option linter.unusedSimpArgs false
set_option linter.unnecessarySimpa false
open Go.RowKit
set_option maxHeartbeats 32000000
attribute [local irreducible] AL AW RG Fin C Cd Cio thenQ blockQ retQ
set_option maxRecDepth 100000
section
variable (f : FuncId) (fi cap : List AV) (key : Int → Int) (hup : upB (keepG 1) (.fn (.func f) fi cap) = .fn (.func f) fi cap) (hps : ∀ heap sel, Pass heap sel (.fn (.func f) fi cap) (.fn (.func f) fi cap)) (k : Nat)
include hup in
set_option maxHeartbeats 16000000 in
theorem merge1_c (l : List Int) (a m b : Nat) (ham : m = a + 1) (hmb : m < b) (hb : b ≤ l.length) (hl : l.length ≤ 1152921504606846976) (hg : CmpV (.fn (.func f) fi cap) key l) (hs : srtd key (seg l m b)) :
    Cio Try.prog 124 [.sl 0 k l.length, i64 a, i64 m, i64 b, .fn (.func f) fi cap] [.row k 3 1 (l.map tI)] (.tup []) [.row k 3 1 ((srt key l a b).map tI)] := by
  have hlt : (l.map tI).length = l.length := List.length_map _
  obtain ⟨x, hx⟩ : ∃ x, l[a]? = some x := ⟨_, List.getElem?_eq_getElem (by omega)⟩
  have kx := kat_of (key := key) hx
  refine Cio.enter' Try.func124 rfl Try.ntmps124 rfl qM ?_
  repeat' (first | ((with_reducible refine kAL ?_); (first | refine A_mt rfl rfl rfl rfl ?_ | (refine kL 105 rfl ?_; (first | refine A_sub rfl rfl 3 3 _ _ rfl rfl rfl (by first | exact wi | rfl) ?_ | refine A_cmp (d := 28) rfl rfl (c := true) .eql 3 3 _ _ rfl rfl rfl (by exact congrArg some (decide_eq_true (by (try (dsimp only; fail_if_success done)); omega))) ?_)) | refine A_as rfl rfl rfl rfl ?_ | refine AL.nil ?_)) | (with_reducible (first | refine wk0 ?_ | refine wk1 ?_ | refine wk2 ?_)) | refine kct rfl ?_ | with_reducible refine AW.at_region _ ?_)
  all_goals first | (exfalso; omega) | skip
  refine AW.loopP (fun (z : Int × Int) => (m : Int) ≤ z.1 ∧ z.1 ≤ z.2 ∧ z.2 ≤ b ∧ ((m : Int) < z.1 → kat key l (z.1 - 1).toNat < kat key l a) ∧ (z.2 < b → kat key l a ≤ kat key l z.2.toNat)) (fun (z : Int × Int) => (pu (pu (pu (pu (pu (pu (pu (fun _ => .any) 0 (.sl 0 k l.length)) 1 (i64 a)) 2 (i64 m)) 3 (i64 b)) 4 (.fn (.func f) fi cap)) 10 (i64 z.1)) 11 (i64 z.2))) (fun (z : Int × Int) => [.row k 3 1 (l.map tI)]) (fun (z : Int × Int) => (z.2 - z.1).toNat) (((m : Int), (b : Int))) ?_ ?_ ?_
  · exact ⟨Int.le_refl _, by dsimp only; omega, Int.le_refl _, fun h => by dsimp only at h; omega, fun h => by dsimp only at h; omega⟩
  · exact Wk.cq 1
  · rintro ⟨i, j⟩ ⟨h1, h2, h3, h4, h5⟩
    dsimp only at h1 h2 h3 h4 h5 ⊢
    by_cases hij : i < j
    · obtain ⟨y, hy⟩ : ∃ y, l[((i + j) / 2).toNat]? = some y := ⟨_, List.getElem?_eq_getElem (by omega)⟩
      have ky := kat_of (key := key) hy
      obtain ⟨c, hc0, hcv⟩ := hg y (List.mem_of_getElem? hy) x (List.mem_of_getElem? hx)
      by_cases hk : key y < key x
      · have hcn := hc0.2 hk
        repeat' (first | ((with_reducible refine kAL ?_); (first | refine A_mt rfl rfl rfl rfl ?_ | (refine kL 105 rfl ?_; (first | refine A_cmp (d := 33) rfl rfl (c := true) .lss 3 3 _ _ rfl rfl rfl (by exact congrArg some (decide_eq_true (by (try (dsimp only; fail_if_success done)); omega))) ?_ | refine A_add rfl rfl 3 3 _ _ rfl rfl rfl (by exact wi) ?_)) | refine A_as rfl rfl rfl rfl ?_ | refine A_conv rfl rfl 3 143 _ rfl ud3 ud143 rfl (by exact wu) ?_ | (refine kL 4585 rfl ?_; refine A_shr rfl rfl 143 143 _ _ rfl rfl rfl (by decide) (fdiv_lit (m := 2) rfl (by decide)) ?_) | refine A_conv rfl rfl 143 3 _ rfl ud143 ud3 rfl (by exact wi) ?_ | refine AL.nil ?_)) | ((with_reducible refine kRG ?_); (first | (refine kR 0 rfl ?_; (first | refine R_mt rfl rfl rfl rfl ?_ | refine R_move rfl rfl _ (.inl rfl) (y := .sl _ _ _) rfl ?_ | refine R_move rfl rfl _ (.inl rfl) (y := .fn _ _ _) rfl ?_)) | (refine kR 710 rfl ?_; refine R_idx_sl rfl rfl 22 _ _ rfl ud22 inf3 rfl rfl (by first | (simp <;> fail) | fail) rfl (by omega) _ (by first | with_reducible exact Int.toNat_natCast _ | exact rfl) (by omega) ?_) | refine R_load_rp rfl rfl 3 _ rfl ud3 rfl rfl rfl (by exact map_get (by assumption)) rfl ?_ | (refine kR 11 rfl ?_; (refine R_callv rfl rfl rfl rfl (hcv) (acc := _) rfl (fun h' hh => by ((repeat (first | exact .nil | refine .cons ?_ ?_ | exact .t _)); (first | done | fail))) rfl rfl ?_)) | refine R_cmp (d := 50) rfl rfl (c := true) .lss 3 3 _ _ rfl rfl rfl (by exact congrArg some (decide_eq_true (by (try (dsimp only; fail_if_success done)); omega))) ?_ | refine RG.nil ⟨by kernel_rfl, ?_⟩)) | (with_reducible (first | refine wk0 ?_ | refine wk1 ?_ | refine wk2 ?_ | refine wk5 ?_ | refine wkd ?_)) | refine kct rfl ?_ | with_reducible refine AW.at_region _ ?_ | refine AW.at_draw 5 mixed 2 [[], [], [], [1, 2], [1, 2, 3], [], [], [5, 6], [5, 6, 7], [0, 1, 2, 3, 4, 5, 6, 7, 8], [0, 1, 2, 3, 4, 5, 6, 7, 8, 9]] qR ?_)
        all_goals first | (exfalso; omega) | skip
        refine ⟨((i + j) / 2 + 1, j), ⟨by dsimp only; omega, by dsimp only; omega, h3, fun _ => ?_, h5⟩, by dsimp only; omega, ?_⟩
        · dsimp only; rw [Int.add_sub_cancel, ky, kx]; exact hk
        · exact Wk.cq 1
      · have hcn : ¬ c < 0 := fun h => hk (hc0.1 h)
        repeat' (first | ((with_reducible refine kAL ?_); (first | refine A_mt rfl rfl rfl rfl ?_ | (refine kL 105 rfl ?_; (first | refine A_cmp (d := 33) rfl rfl (c := true) .lss 3 3 _ _ rfl rfl rfl (by exact congrArg some (decide_eq_true (by (try (dsimp only; fail_if_success done)); omega))) ?_ | refine A_add rfl rfl 3 3 _ _ rfl rfl rfl (by exact wi) ?_)) | refine A_as rfl rfl rfl rfl ?_ | refine A_conv rfl rfl 3 143 _ rfl ud3 ud143 rfl (by exact wu) ?_ | (refine kL 4585 rfl ?_; refine A_shr rfl rfl 143 143 _ _ rfl rfl rfl (by decide) (fdiv_lit (m := 2) rfl (by decide)) ?_) | refine A_conv rfl rfl 143 3 _ rfl ud143 ud3 rfl (by exact wi) ?_ | refine AL.nil ?_)) | ((with_reducible refine kRG ?_); (first | (refine kR 0 rfl ?_; (first | refine R_mt rfl rfl rfl rfl ?_ | refine R_move rfl rfl _ (.inl rfl) (y := .sl _ _ _) rfl ?_ | refine R_move rfl rfl _ (.inl rfl) (y := .fn _ _ _) rfl ?_)) | (refine kR 710 rfl ?_; refine R_idx_sl rfl rfl 22 _ _ rfl ud22 inf3 rfl rfl (by first | (simp <;> fail) | fail) rfl (by omega) _ (by first | with_reducible exact Int.toNat_natCast _ | exact rfl) (by omega) ?_) | refine R_load_rp rfl rfl 3 _ rfl ud3 rfl rfl rfl (by exact map_get (by assumption)) rfl ?_ | (refine kR 11 rfl ?_; (refine R_callv rfl rfl rfl rfl (hcv) (acc := _) rfl (fun h' hh => by ((repeat (first | exact .nil | refine .cons ?_ ?_ | exact .t _)); (first | done | fail))) rfl rfl ?_)) | refine R_cmp (d := 50) rfl rfl (c := false) .lss 3 3 _ _ rfl rfl rfl (by exact congrArg some (decide_eq_false (by (try (dsimp only; fail_if_success done)); omega))) ?_ | refine RG.nil ⟨by kernel_rfl, ?_⟩)) | (with_reducible (first | refine wk0 ?_ | refine wk1 ?_ | refine wk2 ?_ | refine wk5 ?_ | refine wkd ?_)) | refine kct rfl ?_ | refine kcf rfl ?_ | with_reducible refine AW.at_region _ ?_ | refine AW.at_draw 5 mixed 2 [[], [], [], [1, 2], [1, 2, 3], [], [], [5, 6], [5, 6, 7], [0, 1, 2, 3, 4, 5, 6, 7, 8], [0, 1, 2, 3, 4, 5, 6, 7, 8, 9]] qR ?_)
        all_goals first | (exfalso; omega) | skip
        refine ⟨(i, (i + j) / 2), ⟨h1, by dsimp only; omega, by dsimp only; omega, h4, fun _ => ?_⟩, by dsimp only; omega, ?_⟩
        · dsimp only; rw [ky, kx]; omega
        · exact Wk.cq 1
    · obtain rfl : i = j := by omega
      obtain ⟨i, rfl⟩ : ∃ n : Nat, i = n := ⟨i.toNat, by omega⟩
      have hres : bub l a (i - (a + 1)) = srt key l a b := merge_one (by omega) (by omega) hb (by rw [← ham]; exact hs) (fun h => by have := h4 (by omega); rwa [show ((i : Int) - 1).toNat = i - 1 by omega] at this) (fun h => by have := h5 (by omega); rwa [Int.toNat_natCast] at this)
      repeat' (first | ((with_reducible refine kAL ?_); (first | refine A_mt rfl rfl rfl rfl ?_ | refine A_cmp (d := 33) rfl rfl (c := false) .lss 3 3 _ _ rfl rfl rfl (by exact congrArg some (decide_eq_false (by (try (dsimp only; fail_if_success done)); omega))) ?_ | refine A_as rfl rfl rfl rfl ?_ | refine AL.nil ?_)) | (with_reducible (first | refine wk0 ?_ | refine wk1 ?_ | refine wk2 ?_ | refine wk4 ?_ | refine wk7 ?_ | refine wkc ?_)) | refine kcf rfl ?_ | with_reducible refine AW.at_region _ ?_)
      all_goals first | (exfalso; omega) | skip
      refine AW.loopP (fun (z : Nat × List Int) => z.1 + 1 ≤ i ∧ z.2.length = l.length ∧ bub z.2 z.1 (i - (z.1 + 1)) = srt key l a b) (fun (z : Nat × List Int) => (pu (pu (pu (pu (fun _ => .any) 0 (.sl 0 k l.length)) 4 (.fn (.func f) fi cap)) 10 (i64 i)) 13 (i64 z.1))) (fun (z : Nat × List Int) => [.row k 3 1 (z.2.map tI)]) (fun (z : Nat × List Int) => i - z.1) ((a, l)) ?_ ?_ ?_
      · exact ⟨by dsimp only; omega, rfl, hres⟩
      · exact Wk.cq 1
      · rintro ⟨q, M⟩ ⟨g1, g2, g3⟩
        dsimp only at g1 g2 g3 ⊢
        have hMt : (M.map tI).length = l.length := by rw [List.length_map, g2]
        by_cases hq : q + 1 < i
        · have e1 : ((q : Int) + 1).toNat = q + 1 := by omega
          obtain ⟨x, hx⟩ : ∃ x, M[q]? = some x := ⟨_, List.getElem?_eq_getElem (by omega)⟩
          obtain ⟨y, hy⟩ : ∃ y, M[((q : Int) + 1).toNat]? = some y := ⟨_, List.getElem?_eq_getElem (by omega)⟩
          have hy2 : (M.set q y)[((q : Int) + 1).toNat]? = some y := by rw [List.getElem?_set_ne (by omega), hy]
          have hsw := swp_of hx hy
          rw [show i - (q + 1) = (i - (q + 1 + 1)) + 1 by omega, bub, show swp M q (q + 1) = swp M q ((q : Int) + 1).toNat by rw [e1], ← hsw] at g3
          skip
          repeat' (first | ((with_reducible refine kAL ?_); (first | refine A_mt rfl rfl rfl rfl ?_ | (refine kL 105 rfl ?_; (first | refine A_sub rfl rfl 3 3 _ _ rfl rfl rfl (by first | exact wi | rfl) ?_ | refine A_add rfl rfl 3 3 _ _ rfl rfl rfl (by first | exact wi | rfl) ?_ | refine A_cmp (d := 58) rfl rfl (c := true) .lss 3 3 _ _ rfl rfl rfl (by exact congrArg some (decide_eq_true (by (try (dsimp only; fail_if_success done)); omega))) ?_)) | refine A_as rfl rfl rfl rfl ?_ | refine AL.nil ?_)) | ((with_reducible refine kRG ?_); (first | (refine kR 0 rfl ?_; (first | refine R_mt rfl rfl rfl rfl ?_ | refine R_move rfl rfl _ (.inl rfl) (y := .sl _ _ _) rfl ?_)) | (refine kR 710 rfl ?_; refine R_idx_sl rfl rfl 22 _ _ rfl ud22 inf3 rfl rfl (by (simp; omega)) rfl (by omega) _ (by first | with_reducible exact Int.toNat_natCast _ | exact rfl) (by omega) ?_) | refine R_load_rp rfl rfl 3 _ rfl ud3 rfl rfl rfl (by exact map_get (by assumption)) rfl ?_ | refine R_add rfl rfl 3 3 _ _ rfl rfl rfl (by exact wi) ?_ | (refine kR 99 rfl ?_; refine R_store_rp rfl rfl 3 _ _ rfl inf3 (by decide) rfl rfl (by exact map_get (by assumption)) rfl rfl rfl (Nat.le_of_ble_eq_true rfl) (by exact map_set (f := tI) (x := _)) qN ?_) | refine RG.nil ⟨by kernel_rfl, ?_⟩)) | (with_reducible (first | refine wk0 ?_ | refine wk1 ?_ | refine wk2 ?_ | refine wk5 ?_ | refine wkd ?_)) | refine kct rfl ?_ | with_reducible refine AW.at_region _ ?_ | refine AW.at_draw 11 mixed 0 [[], [], [], [], [3], [], [], [6], [5, 6, 7], [5, 6, 7, 8], [], [], [10, 11], [10, 11, 12], [0, 1, 5, 6, 7, 8, 9, 10, 11, 12, 13], [0, 1, 5, 6, 7, 8, 9, 10, 11, 12, 13, 14], [0, 1, 2, 3, 4, 5, 6, 7, 8, 9, 10, 11, 12, 13, 14, 15], [0, 1, 2, 3, 4, 5, 6, 7, 8, 9, 10, 11, 12, 13, 14, 15, 16]] qR ?_)
          all_goals first | (exfalso; omega) | skip
          refine ⟨(q + 1, (M.set q y).set ((q : Int) + 1).toNat x), ⟨by dsimp only; omega, by simp [g2], g3⟩, by dsimp only; omega, ?_⟩
          exact Wk.cq 1
        · rw [show i - (q + 1) = 0 by omega, bub] at g3
          subst g3
          repeat' (first | ((with_reducible refine kAL ?_); (first | refine A_mt rfl rfl rfl rfl ?_ | (refine kL 105 rfl ?_; (first | refine A_sub rfl rfl 3 3 _ _ rfl rfl rfl (by first | exact wi | rfl) ?_ | refine A_cmp (d := 58) rfl rfl (c := false) .lss 3 3 _ _ rfl rfl rfl (by exact congrArg some (decide_eq_false (by (try (dsimp only; fail_if_success done)); omega))) ?_)) | refine AL.nil ?_)) | (with_reducible (first | refine wk0 ?_ | refine wk2 ?_ | refine wk3 ?_ | refine wk4 ?_ | refine wk7 ?_ | refine wk9 ?_ | refine wkb ?_ | refine wkc ?_)) | refine kcf rfl ?_ | with_reducible refine AW.at_region _ ?_)
          all_goals first | (exfalso; omega) | (exact Fin.q Try.results124 .nil [])
include hup in
set_option maxHeartbeats 16000000 in
theorem merge2_c (l : List Int) (a m b : Nat) (ham : a + 1 < m) (hmb : b = m + 1) (hb : b ≤ l.length) (hl : l.length ≤ 1152921504606846976) (hg : CmpV (.fn (.func f) fi cap) key l) (hs : srtd key (seg l a m)) :
    Cio Try.prog 124 [.sl 0 k l.length, i64 a, i64 m, i64 b, .fn (.func f) fi cap] [.row k 3 1 (l.map tI)] (.tup []) [.row k 3 1 ((srt key l a b).map tI)] := by
  have hlt : (l.map tI).length = l.length := List.length_map _
  obtain ⟨x, hx⟩ : ∃ x, l[m]? = some x := ⟨_, List.getElem?_eq_getElem (by omega)⟩
  have kx := kat_of (key := key) hx
  refine Cio.enter' Try.func124 rfl Try.ntmps124 rfl qM ?_
  repeat' (first | ((with_reducible refine kAL ?_); (first | refine A_mt rfl rfl rfl rfl ?_ | (refine kL 105 rfl ?_; (first | refine A_sub rfl rfl 3 3 _ _ rfl rfl rfl (by first | exact wi | rfl) ?_ | refine A_cmp (d := 28) rfl rfl (c := false) .eql 3 3 _ _ rfl rfl rfl (by exact congrArg some (decide_eq_false (by (try (dsimp only; fail_if_success done)); omega))) ?_ | refine A_cmp (d := 80) rfl rfl (c := true) .eql 3 3 _ _ rfl rfl rfl (by exact congrArg some (decide_eq_true (by (try (dsimp only; fail_if_success done)); omega))) ?_)) | refine A_as rfl rfl rfl rfl ?_ | refine AL.nil ?_)) | (with_reducible (first | refine wk0 ?_ | refine wk1 ?_ | refine wk2 ?_ | refine wkd ?_)) | refine kct rfl ?_ | refine kcf rfl ?_ | with_reducible refine AW.at_region _ ?_)
  all_goals first | (exfalso; omega) | skip
  refine AW.loopP (fun (z : Int × Int) => (a : Int) ≤ z.1 ∧ z.1 ≤ z.2 ∧ z.2 ≤ m ∧ ((a : Int) < z.1 → kat key l (z.1 - 1).toNat ≤ kat key l m) ∧ (z.2 < m → kat key l m < kat key l z.2.toNat)) (fun (z : Int × Int) => (pu (pu (pu (pu (pu (pu (pu (fun _ => .any) 0 (.sl 0 k l.length)) 1 (i64 a)) 2 (i64 m)) 3 (i64 b)) 4 (.fn (.func f) fi cap)) 14 (i64 z.1)) 15 (i64 z.2))) (fun (z : Int × Int) => [.row k 3 1 (l.map tI)]) (fun (z : Int × Int) => (z.2 - z.1).toNat) (((a : Int), (m : Int))) ?_ ?_ ?_
  · exact ⟨Int.le_refl _, by dsimp only; omega, Int.le_refl _, fun h => by dsimp only at h; omega, fun h => by dsimp only at h; omega⟩
  · exact Wk.cq 1
  · rintro ⟨i, j⟩ ⟨h1, h2, h3, h4, h5⟩
    dsimp only at h1 h2 h3 h4 h5 ⊢
    by_cases hij : i < j
    · obtain ⟨y, hy⟩ : ∃ y, l[((i + j) / 2).toNat]? = some y := ⟨_, List.getElem?_eq_getElem (by omega)⟩
      have ky := kat_of (key := key) hy
      obtain ⟨c, hc0, hcv⟩ := hg x (List.mem_of_getElem? hx) y (List.mem_of_getElem? hy)
      by_cases hk : key x < key y
      · have hcn := hc0.2 hk
        repeat' (first | ((with_reducible refine kAL ?_); (first | refine A_mt rfl rfl rfl rfl ?_ | (refine kL 105 rfl ?_; (first | refine A_add rfl rfl 3 3 _ _ rfl rfl rfl (by first | exact wi | rfl) ?_ | refine A_cmp (d := 85) rfl rfl (c := true) .lss 3 3 _ _ rfl rfl rfl (by exact congrArg some (decide_eq_true (by (try (dsimp only; fail_if_success done)); omega))) ?_)) | refine A_as rfl rfl rfl rfl ?_ | refine A_conv rfl rfl 3 143 _ rfl ud3 ud143 rfl (by exact wu) ?_ | (refine kL 4585 rfl ?_; refine A_shr rfl rfl 143 143 _ _ rfl rfl rfl (by decide) (fdiv_lit (m := 2) rfl (by decide)) ?_) | refine A_conv rfl rfl 143 3 _ rfl ud143 ud3 rfl (by exact wi) ?_ | refine AL.nil ?_)) | ((with_reducible refine kRG ?_); (first | (refine kR 0 rfl ?_; (first | refine R_mt rfl rfl rfl rfl ?_ | refine R_move rfl rfl _ (.inl rfl) (y := .sl _ _ _) rfl ?_ | refine R_move rfl rfl _ (.inl rfl) (y := .fn _ _ _) rfl ?_)) | (refine kR 710 rfl ?_; refine R_idx_sl rfl rfl 22 _ _ rfl ud22 inf3 rfl rfl (by first | (simp <;> fail) | fail) rfl (by omega) _ (by first | with_reducible exact Int.toNat_natCast _ | exact rfl) (by omega) ?_) | refine R_load_rp rfl rfl 3 _ rfl ud3 rfl rfl rfl (by exact map_get (by assumption)) rfl ?_ | refine R_cmp (d := 102) rfl rfl (c := true) .lss 3 3 _ _ rfl rfl rfl (by exact congrArg some (decide_eq_true (by (try (dsimp only; fail_if_success done)); omega))) ?_ | (refine kR 11 rfl ?_; (refine R_callv rfl rfl rfl rfl (hcv) (acc := _) rfl (fun h' hh => by ((repeat (first | exact .nil | refine .cons ?_ ?_ | exact .t _)); (first | done | fail))) rfl rfl ?_)) | refine R_not rfl rfl _ _ rfl rfl ?_ | refine RG.nil ⟨by kernel_rfl, ?_⟩)) | (with_reducible (first | refine wk0 ?_ | refine wk1 ?_ | refine wk2 ?_ | refine wk5 ?_ | refine wkd ?_)) | refine kct rfl ?_ | refine kcf rfl ?_ | with_reducible refine AW.at_region _ ?_ | refine AW.at_draw 17 mixed 2 [[], [], [], [1, 2], [1, 2, 3], [], [], [5, 6], [5, 6, 7], [0, 1, 2, 3, 4, 5, 6, 7, 8], [0, 1, 2, 3, 4, 5, 6, 7, 8, 9], [0, 1, 2, 3, 4, 5, 6, 7, 8, 9, 10]] qR ?_)
        all_goals first | (exfalso; omega) | skip
        refine ⟨(i, (i + j) / 2), ⟨h1, by dsimp only; omega, by dsimp only; omega, h4, fun _ => ?_⟩, by dsimp only; omega, ?_⟩
        · dsimp only; rw [ky, kx]; exact hk
        · exact Wk.cq 1
      · have hcn : ¬ c < 0 := fun h => hk (hc0.1 h)
        repeat' (first | ((with_reducible refine kAL ?_); (first | refine A_mt rfl rfl rfl rfl ?_ | (refine kL 105 rfl ?_; (first | refine A_add rfl rfl 3 3 _ _ rfl rfl rfl (by first | exact wi | rfl) ?_ | refine A_cmp (d := 85) rfl rfl (c := true) .lss 3 3 _ _ rfl rfl rfl (by exact congrArg some (decide_eq_true (by (try (dsimp only; fail_if_success done)); omega))) ?_)) | refine A_as rfl rfl rfl rfl ?_ | refine A_conv rfl rfl 3 143 _ rfl ud3 ud143 rfl (by exact wu) ?_ | (refine kL 4585 rfl ?_; refine A_shr rfl rfl 143 143 _ _ rfl rfl rfl (by decide) (fdiv_lit (m := 2) rfl (by decide)) ?_) | refine A_conv rfl rfl 143 3 _ rfl ud143 ud3 rfl (by exact wi) ?_ | refine AL.nil ?_)) | ((with_reducible refine kRG ?_); (first | (refine kR 0 rfl ?_; (first | refine R_mt rfl rfl rfl rfl ?_ | refine R_move rfl rfl _ (.inl rfl) (y := .sl _ _ _) rfl ?_ | refine R_move rfl rfl _ (.inl rfl) (y := .fn _ _ _) rfl ?_)) | (refine kR 710 rfl ?_; refine R_idx_sl rfl rfl 22 _ _ rfl ud22 inf3 rfl rfl (by first | (simp <;> fail) | fail) rfl (by omega) _ (by first | with_reducible exact Int.toNat_natCast _ | exact rfl) (by omega) ?_) | refine R_load_rp rfl rfl 3 _ rfl ud3 rfl rfl rfl (by exact map_get (by assumption)) rfl ?_ | refine R_cmp (d := 102) rfl rfl (c := false) .lss 3 3 _ _ rfl rfl rfl (by exact congrArg some (decide_eq_false (by (try (dsimp only; fail_if_success done)); omega))) ?_ | (refine kR 11 rfl ?_; (refine R_callv rfl rfl rfl rfl (hcv) (acc := _) rfl (fun h' hh => by ((repeat (first | exact .nil | refine .cons ?_ ?_ | exact .t _)); (first | done | fail))) rfl rfl ?_)) | refine R_not rfl rfl _ _ rfl rfl ?_ | refine RG.nil ⟨by kernel_rfl, ?_⟩)) | (with_reducible (first | refine wk0 ?_ | refine wk1 ?_ | refine wk2 ?_ | refine wk5 ?_ | refine wkd ?_)) | refine kct rfl ?_ | with_reducible refine AW.at_region _ ?_ | refine AW.at_draw 17 mixed 2 [[], [], [], [1, 2], [1, 2, 3], [], [], [5, 6], [5, 6, 7], [0, 1, 2, 3, 4, 5, 6, 7, 8], [0, 1, 2, 3, 4, 5, 6, 7, 8, 9], [0, 1, 2, 3, 4, 5, 6, 7, 8, 9, 10]] qR ?_)
        all_goals first | (exfalso; omega) | skip
        refine ⟨((i + j) / 2 + 1, j), ⟨by dsimp only; omega, by dsimp only; omega, h3, fun _ => ?_, h5⟩, by dsimp only; omega, ?_⟩
        · dsimp only; rw [Int.add_sub_cancel, ky, kx]; omega
        · exact Wk.cq 1
    · obtain rfl : i = j := by omega
      obtain ⟨i, rfl⟩ : ∃ n : Nat, i = n := ⟨i.toNat, by omega⟩
      have hres : bubd l m (m - i) = srt key l a b := by
        rw [hmb]
        exact merge_last (by omega) (by omega) (by omega) hs (fun h => by have := h4 (by omega); rwa [show ((i : Int) - 1).toNat = i - 1 by omega] at this) (fun h => by have := h5 (by omega); rwa [Int.toNat_natCast] at this)
      repeat' (first | ((with_reducible refine kAL ?_); (first | refine A_mt rfl rfl rfl rfl ?_ | refine A_cmp (d := 85) rfl rfl (c := false) .lss 3 3 _ _ rfl rfl rfl (by exact congrArg some (decide_eq_false (by (try (dsimp only; fail_if_success done)); omega))) ?_ | refine A_as rfl rfl rfl rfl ?_ | refine AL.nil ?_)) | (with_reducible (first | refine wk0 ?_ | refine wk1 ?_ | refine wk2 ?_ | refine wk4 ?_ | refine wk7 ?_ | refine wkc ?_)) | refine kcf rfl ?_ | with_reducible refine AW.at_region _ ?_)
      all_goals first | (exfalso; omega) | skip
      refine AW.loopP (fun (z : Int × List Int) => (i : Int) ≤ z.1 ∧ z.1 ≤ m ∧ z.2.length = l.length ∧ bubd z.2 z.1.toNat (z.1.toNat - i) = srt key l a b) (fun (z : Int × List Int) => (pu (pu (pu (pu (fun _ => .any) 0 (.sl 0 k l.length)) 4 (.fn (.func f) fi cap)) 14 (i64 i)) 17 (i64 z.1))) (fun (z : Int × List Int) => [.row k 3 1 (z.2.map tI)]) (fun (z : Int × List Int) => (z.1 - i).toNat) (((m : Int), l)) ?_ ?_ ?_
      · exact ⟨by dsimp only; omega, by dsimp only; omega, rfl, hres⟩
      · exact Wk.cq 1
      · rintro ⟨q, M⟩ ⟨g1, g0, g2, g3⟩
        dsimp only at g1 g0 g2 g3 ⊢
        have hMt : (M.map tI).length = l.length := by rw [List.length_map, g2]
        by_cases hq : (i : Int) < q
        · have e1 : (q - 1).toNat = q.toNat - 1 := by omega
          obtain ⟨x, hx⟩ : ∃ x, M[q.toNat]? = some x := ⟨_, List.getElem?_eq_getElem (by omega)⟩
          obtain ⟨y, hy⟩ : ∃ y, M[(q - 1).toNat]? = some y := ⟨_, List.getElem?_eq_getElem (by omega)⟩
          have hy2 : (M.set q.toNat y)[(q - 1).toNat]? = some y := by rw [List.getElem?_set_ne (by omega), hy]
          have hsw := swp_of hx hy
          rw [show q.toNat - i = ((q - 1).toNat - i) + 1 by omega, bubd, show swp M q.toNat (q.toNat - 1) = swp M q.toNat (q - 1).toNat by rw [e1], ← hsw, ← e1] at g3
          skip
          repeat' (first | ((with_reducible refine kAL ?_); (first | refine A_mt rfl rfl rfl rfl ?_ | (refine kL 105 rfl ?_; (first | refine A_sub rfl rfl 3 3 _ _ rfl rfl rfl (by first | exact wi | rfl) ?_ | refine A_cmp (d := 110) rfl rfl (c := true) .gtr 3 3 _ _ rfl rfl rfl (by exact congrArg some (decide_eq_true (by (try (dsimp only; fail_if_success done)); omega))) ?_)) | refine A_as rfl rfl rfl rfl ?_ | refine AL.nil ?_)) | ((with_reducible refine kRG ?_); (first | (refine kR 0 rfl ?_; (first | refine R_mt rfl rfl rfl rfl ?_ | refine R_move rfl rfl _ (.inl rfl) (y := .sl _ _ _) rfl ?_)) | (refine kR 710 rfl ?_; refine R_idx_sl rfl rfl 22 _ _ rfl ud22 inf3 rfl rfl (by (simp; omega)) rfl (by omega) _ (by exact rfl) (by omega) ?_) | refine R_load_rp rfl rfl 3 _ rfl ud3 rfl rfl rfl (by exact map_get (by assumption)) rfl ?_ | refine R_sub rfl rfl 3 3 _ _ rfl rfl rfl (by exact wi) ?_ | (refine kR 99 rfl ?_; refine R_store_rp rfl rfl 3 _ _ rfl inf3 (by decide) rfl rfl (by exact map_get (by assumption)) rfl rfl rfl (Nat.le_of_ble_eq_true rfl) (by exact map_set (f := tI) (x := _)) qN ?_) | refine RG.nil ⟨by kernel_rfl, ?_⟩)) | (with_reducible (first | refine wk0 ?_ | refine wk1 ?_ | refine wk2 ?_ | refine wk5 ?_ | refine wkd ?_)) | refine kct rfl ?_ | with_reducible refine AW.at_region _ ?_ | refine AW.at_draw 23 mixed 0 [[], [], [], [], [3], [], [], [6], [5, 6, 7], [5, 6, 7, 8], [], [], [10, 11], [10, 11, 12], [0, 1, 5, 6, 7, 8, 9, 10, 11, 12, 13], [0, 1, 5, 6, 7, 8, 9, 10, 11, 12, 13, 14], [0, 1, 2, 3, 4, 5, 6, 7, 8, 9, 10, 11, 12, 13, 14, 15], [0, 1, 2, 3, 4, 5, 6, 7, 8, 9, 10, 11, 12, 13, 14, 15, 16]] qR ?_)
          all_goals first | (exfalso; omega) | skip
          refine ⟨(q - 1, (M.set q.toNat y).set (q - 1).toNat x), ⟨by dsimp only; omega, by dsimp only; omega, by simp [g2], g3⟩, by dsimp only; omega, ?_⟩
          exact Wk.cq 1
        · rw [show q.toNat - i = 0 by omega, bubd] at g3
          subst g3
          repeat' (first | ((with_reducible refine kAL ?_); (first | refine A_mt rfl rfl rfl rfl ?_ | refine A_cmp (d := 110) rfl rfl (c := false) .gtr 3 3 _ _ rfl rfl rfl (by exact congrArg some (decide_eq_false (by (try (dsimp only; fail_if_success done)); omega))) ?_ | refine AL.nil ?_)) | (with_reducible (first | refine wk0 ?_ | refine wk2 ?_ | refine wk3 ?_ | refine wk4 ?_ | refine wk7 ?_ | refine wk9 ?_ | refine wkb ?_ | refine wkc ?_)) | refine kcf rfl ?_ | with_reducible refine AW.at_region _ ?_)
          all_goals first | (exfalso; omega) | (exact Fin.q Try.results124 .nil [])
include hup hps in
set_option maxHeartbeats 32000000 in
theorem merge3_c (l : List Int) (a m b : Nat) (ham : a + 1 < m) (hmb : m + 1 < b) (hb : b ≤ l.length) (hl : l.length ≤ 1152921504606846976) (hg : CmpV (.fn (.func f) fi cap) key l) (hs1 : srtd key (seg l a m)) (hs2 : srtd key (seg l m b))
    (IH : ∀ (l : List Int) (a' m' b' : Nat), b' - a' < b - a → a' < m' → m' < b' → b' ≤ l.length → l.length ≤ 1152921504606846976 → CmpV (.fn (.func f) fi cap) key l → srtd key (seg l a' m') → srtd key (seg l m' b') → Cio Try.prog 124 [.sl 0 k l.length, i64 a', i64 m', i64 b', .fn (.func f) fi cap] [.row k 3 1 (l.map tI)] (.tup []) [.row k 3 1 ((srt key l a' b').map tI)]) :
    Cio Try.prog 124 [.sl 0 k l.length, i64 a, i64 m, i64 b, .fn (.func f) fi cap] [.row k 3 1 (l.map tI)] (.tup []) [.row k 3 1 ((srt key l a b).map tI)] := by
  have hlt : (l.map tI).length = l.length := List.length_map _
  obtain ⟨mid, emid⟩ : ∃ mid : Nat, ((a : Int) + (b : Int)) / 2 = mid := ⟨(a + b) / 2, by omega⟩
  refine Cio.enter' Try.func124 rfl Try.ntmps124 rfl qM ?_
  by_cases hmm : mid < m
  · obtain ⟨lo, elo⟩ : ∃ lo : Int, lo = (mid : Int) + m - b := ⟨_, rfl⟩
    obtain ⟨hi, ehi⟩ : ∃ hi : Int, hi = (mid : Int) := ⟨_, rfl⟩
    repeat' (first | ((with_reducible refine kAL ?_); (first | refine A_mt rfl rfl rfl rfl ?_ | (refine kL 105 rfl ?_; (first | refine A_sub rfl rfl 3 3 _ _ rfl rfl rfl (by first | exact wi | rfl) ?_ | refine A_cmp (d := 28) rfl rfl (c := false) .eql 3 3 _ _ rfl rfl rfl (by exact congrArg some (decide_eq_false (by (try (dsimp only; fail_if_success done)); omega))) ?_ | refine A_add rfl rfl 3 3 _ _ rfl rfl rfl (by first | exact wi | rfl) ?_ | refine A_cmp (d := 80) rfl rfl (c := false) .eql 3 3 _ _ rfl rfl rfl (by exact congrArg some (decide_eq_false (by (try (dsimp only; fail_if_success done)); omega))) ?_ | refine A_cmp (d := 140) rfl rfl (c := true) .gtr 3 3 _ _ rfl rfl rfl (by exact congrArg some (decide_eq_true (by (try (dsimp only; fail_if_success done)); omega))) ?_)) | refine A_as rfl rfl rfl rfl ?_ | refine A_conv rfl rfl 3 143 _ rfl ud3 ud143 rfl (by exact wu) ?_ | (refine kL 4585 rfl ?_; refine A_shr rfl rfl 143 143 _ _ rfl rfl rfl (by decide) (fdiv_lit (m := 2) rfl (by decide)) ?_) | refine A_conv rfl rfl 143 3 _ rfl ud143 ud3 rfl (by exact wi) ?_ | refine AL.nil ?_)) | (with_reducible (first | refine wk0 ?_ | refine wk1 ?_ | refine wk2 ?_ | refine wkd ?_)) | refine kct rfl ?_ | refine kcf rfl ?_ | with_reducible refine AW.at_region _ ?_)
    all_goals first | (exfalso; omega) | skip
    rw [emid]
    refine AW.loopP (fun (z : Int × Int) => lo ≤ z.1 ∧ z.1 ≤ z.2 ∧ z.2 ≤ hi ∧ (lo < z.1 → kat key l (z.1 - 1).toNat ≤ kat key l ((mid : Int) + m - 1 - (z.1 - 1)).toNat) ∧ (z.2 < hi → kat key l ((mid : Int) + m - 1 - z.2).toNat < kat key l z.2.toNat)) (fun (z : Int × Int) => (pu (pu (pu (pu (pu (pu (pu (pu (pu (pu (fun _ => .any) 0 (.sl 0 k l.length)) 1 (i64 a)) 2 (i64 m)) 3 (i64 b)) 4 (.fn (.func f) fi cap)) 18 (i64 mid)) 19 (i64 ((mid : Int) + m))) 20 (i64 z.1)) 21 (i64 z.2)) 22 (i64 ((mid : Int) + m - 1)))) (fun (z : Int × Int) => [.row k 3 1 (l.map tI)]) (fun (z : Int × Int) => (z.2 - z.1).toNat) ((lo, hi)) ?_ ?_ ?_
    · exact ⟨Int.le_refl _, by dsimp only; omega, Int.le_refl _, fun h => by dsimp only at h; omega, fun h => by dsimp only at h; omega⟩
    · subst elo ehi; exact Wk.cq 1
    · rintro ⟨i, j⟩ ⟨h1, h2, h3, h4, h5⟩
      dsimp only at h1 h2 h3 h4 h5 ⊢
      by_cases hij : i < j
      · obtain ⟨y, hy⟩ : ∃ y, l[((i + j) / 2).toNat]? = some y := ⟨_, List.getElem?_eq_getElem (by omega)⟩
        obtain ⟨x, hx⟩ : ∃ x, l[((mid : Int) + m - 1 - (i + j) / 2).toNat]? = some x := ⟨_, List.getElem?_eq_getElem (by omega)⟩
        have ky := kat_of (key := key) hy
        have kx := kat_of (key := key) hx
        obtain ⟨c, hc0, hcv⟩ := hg x (List.mem_of_getElem? hx) y (List.mem_of_getElem? hy)
        by_cases hk : key x < key y
        · have hcn := hc0.2 hk
          repeat' (first | ((with_reducible refine kAL ?_); (first | refine A_mt rfl rfl rfl rfl ?_ | (refine kL 105 rfl ?_; (first | refine A_add rfl rfl 3 3 _ _ rfl rfl rfl (by first | exact wi | rfl) ?_ | refine A_cmp (d := 151) rfl rfl (c := true) .lss 3 3 _ _ rfl rfl rfl (by exact congrArg some (decide_eq_true (by (try (dsimp only; fail_if_success done)); omega))) ?_)) | refine A_as rfl rfl rfl rfl ?_ | refine A_conv rfl rfl 3 143 _ rfl ud3 ud143 rfl (by exact wu) ?_ | (refine kL 4585 rfl ?_; refine A_shr rfl rfl 143 143 _ _ rfl rfl rfl (by decide) (fdiv_lit (m := 2) rfl (by decide)) ?_) | refine A_conv rfl rfl 143 3 _ rfl ud143 ud3 rfl (by exact wi) ?_ | refine AL.nil ?_)) | ((with_reducible refine kRG ?_); (first | (refine kR 0 rfl ?_; (first | refine R_mt rfl rfl rfl rfl ?_ | refine R_move rfl rfl _ (.inl rfl) (y := .sl _ _ _) rfl ?_ | refine R_move rfl rfl _ (.inl rfl) (y := .fn _ _ _) rfl ?_)) | (refine kR 710 rfl ?_; refine R_idx_sl rfl rfl 22 _ _ rfl ud22 inf3 rfl rfl (by first | (simp <;> fail) | fail) rfl (by omega) _ (by exact rfl) (by omega) ?_) | refine R_load_rp rfl rfl 3 _ rfl ud3 rfl rfl rfl (by exact map_get (by assumption)) rfl ?_ | (refine kR 105 rfl ?_; (first | refine R_sub rfl rfl 3 3 _ _ rfl rfl rfl (by first | exact wi | rfl) ?_ | refine R_cmp (d := 170) rfl rfl (c := true) .lss 3 3 _ _ rfl rfl rfl (by exact congrArg some (decide_eq_true (by (try (dsimp only; fail_if_success done)); omega))) ?_)) | refine R_not rfl rfl _ _ rfl rfl ?_ | (refine kR 11 rfl ?_; (refine R_callv rfl rfl rfl rfl (hcv) (acc := _) rfl (fun h' hh => by ((repeat (first | exact .nil | refine .cons ?_ ?_ | exact .t _)); (first | done | fail))) rfl rfl ?_)) | refine RG.nil ⟨by kernel_rfl, ?_⟩)) | (with_reducible (first | refine wk0 ?_ | refine wk1 ?_ | refine wk2 ?_ | refine wk5 ?_ | refine wkd ?_)) | refine kct rfl ?_ | refine kcf rfl ?_ | with_reducible refine AW.at_region _ ?_ | refine AW.at_draw 35 mixed 2 [[], [], [], [], [2, 3], [1, 2, 3, 4], [1, 2, 3, 4, 5], [], [], [7, 8], [7, 8, 9], [0, 1, 2, 3, 4, 5, 6, 7, 8, 9, 10], [0, 1, 2, 3, 4, 5, 6, 7, 8, 9, 10, 11], [0, 1, 2, 3, 4, 5, 6, 7, 8, 9, 10, 11, 12]] qR ?_)
          all_goals first | (exfalso; omega) | skip
          refine ⟨(i, (i + j) / 2), ⟨h1, by dsimp only; omega, by dsimp only; omega, h4, fun _ => ?_⟩, by dsimp only; omega, ?_⟩
          · dsimp only; rw [ky, kx]; exact hk
          · exact Wk.cq 1
        · have hcn : ¬ c < 0 := fun h => hk (hc0.1 h)
          repeat' (first | ((with_reducible refine kAL ?_); (first | refine A_mt rfl rfl rfl rfl ?_ | (refine kL 105 rfl ?_; (first | refine A_add rfl rfl 3 3 _ _ rfl rfl rfl (by first | exact wi | rfl) ?_ | refine A_cmp (d := 151) rfl rfl (c := true) .lss 3 3 _ _ rfl rfl rfl (by exact congrArg some (decide_eq_true (by (try (dsimp only; fail_if_success done)); omega))) ?_)) | refine A_as rfl rfl rfl rfl ?_ | refine A_conv rfl rfl 3 143 _ rfl ud3 ud143 rfl (by exact wu) ?_ | (refine kL 4585 rfl ?_; refine A_shr rfl rfl 143 143 _ _ rfl rfl rfl (by decide) (fdiv_lit (m := 2) rfl (by decide)) ?_) | refine A_conv rfl rfl 143 3 _ rfl ud143 ud3 rfl (by exact wi) ?_ | refine AL.nil ?_)) | ((with_reducible refine kRG ?_); (first | (refine kR 0 rfl ?_; (first | refine R_mt rfl rfl rfl rfl ?_ | refine R_move rfl rfl _ (.inl rfl) (y := .sl _ _ _) rfl ?_ | refine R_move rfl rfl _ (.inl rfl) (y := .fn _ _ _) rfl ?_)) | (refine kR 710 rfl ?_; refine R_idx_sl rfl rfl 22 _ _ rfl ud22 inf3 rfl rfl (by first | (simp <;> fail) | fail) rfl (by omega) _ (by exact rfl) (by omega) ?_) | refine R_load_rp rfl rfl 3 _ rfl ud3 rfl rfl rfl (by exact map_get (by assumption)) rfl ?_ | (refine kR 105 rfl ?_; (first | refine R_sub rfl rfl 3 3 _ _ rfl rfl rfl (by first | exact wi | rfl) ?_ | refine R_cmp (d := 170) rfl rfl (c := false) .lss 3 3 _ _ rfl rfl rfl (by exact congrArg some (decide_eq_false (by (try (dsimp only; fail_if_success done)); omega))) ?_)) | refine R_not rfl rfl _ _ rfl rfl ?_ | (refine kR 11 rfl ?_; (refine R_callv rfl rfl rfl rfl (hcv) (acc := _) rfl (fun h' hh => by ((repeat (first | exact .nil | refine .cons ?_ ?_ | exact .t _)); (first | done | fail))) rfl rfl ?_)) | refine RG.nil ⟨by kernel_rfl, ?_⟩)) | (with_reducible (first | refine wk0 ?_ | refine wk1 ?_ | refine wk2 ?_ | refine wk5 ?_ | refine wkd ?_)) | refine kct rfl ?_ | with_reducible refine AW.at_region _ ?_ | refine AW.at_draw 35 mixed 2 [[], [], [], [], [2, 3], [1, 2, 3, 4], [1, 2, 3, 4, 5], [], [], [7, 8], [7, 8, 9], [0, 1, 2, 3, 4, 5, 6, 7, 8, 9, 10], [0, 1, 2, 3, 4, 5, 6, 7, 8, 9, 10, 11], [0, 1, 2, 3, 4, 5, 6, 7, 8, 9, 10, 11, 12]] qR ?_)
          all_goals first | (exfalso; omega) | skip
          refine ⟨((i + j) / 2 + 1, j), ⟨by dsimp only; omega, by dsimp only; omega, h3, fun _ => ?_, h5⟩, by dsimp only; omega, ?_⟩
          · dsimp only; rw [Int.add_sub_cancel, ky, kx]; omega
          · exact Wk.cq 1
      · obtain rfl : i = j := by omega
        obtain ⟨st, rfl⟩ : ∃ n : Nat, i = n := ⟨i.toNat, by omega⟩
        obtain ⟨en, een⟩ : ∃ en : Nat, (mid : Int) + m - st = en := ⟨((mid : Int) + m - st).toNat, by omega⟩
        have q1 : a ≤ st := by omega
        have q2 : st ≤ m := by omega
        have q3 : m ≤ en := by omega
        have q4 : en ≤ b := by omega
        have q5 : st ≤ mid := by omega
        obtain ⟨s1, s2, s3, s4, s5⟩ := merge_mid (mid := mid) q1 q2 q3 q4 hb (by omega) hs1 hs2 (fun g1 g2 => by
          have := h4 (by omega)
          rwa [show ((st : Int) - 1).toNat = st - 1 by omega, show ((mid : Int) + m - 1 - ((st : Int) - 1)).toNat = en by omega] at this) (fun g1 g2 => by
          have := h5 (by omega)
          rwa [show ((mid : Int) + m - 1 - (st : Int)).toNat = en - 1 by omega, Int.toNat_natCast] at this)
        have n1 : ¬ (st < m ∧ m < en) → l = rot l st m en := fun h => (rot_same q2 q3 h).symm
        have n2 : ¬ (a < st ∧ st < mid) → rot l st m en = srt key (rot l st m en) a mid := fun h => by
          by_cases e : a = st
          · subst e; exact (srt_srtd (by omega) s2).symm
          · have e2 : st = mid := by omega
            subst e2; exact (srt_srtd q1 s1).symm
        have n3 : ¬ (mid < en ∧ en < b) → srt key (rot l st m en) a mid = srt key l a b := fun h => by
          rw [← s5]
          by_cases e : mid = en
          · subst e; exact (srt_srtd (by omega) s4).symm
          · have e2 : en = b := by omega
            subst e2; exact (srt_srtd (by omega) s3).symm
        have v1 : ∀ z ∈ rot l st m en, z ∈ l := fun z hz => rot_mem hz
        have v2 : ∀ z ∈ srt key (rot l st m en) a mid, z ∈ l := fun z hz => v1 z ((srt_mem (by omega)).1 hz)
        have w1 : (rot l st m en).length = l.length := rot_len q2 q3 (by omega)
        have w2 : (srt key (rot l st m en) a mid).length = l.length := by rw [srt_len (by omega) (by omega), w1]
        have cR : st < m ∧ m < en → _ := fun h => rotate_c f fi cap hup hps l k st m en h.1 h.2 (by omega) hl
        have c2 : a < st ∧ st < mid → _ := fun h => IH (rot l st m en) a st mid (by omega) h.1 h.2 (by omega) (by omega) (hg.mono v1) s1 s2
        have c3 : mid < en ∧ en < b → _ := fun h => IH (srt key (rot l st m en) a mid) mid en b (by omega) h.1 h.2 (by omega) (by omega) (hg.mono v2) s3 s4
        rw [s5] at c3
        rw [w1] at c2
        rw [w2] at c3
        clear s1 s2 s3 s4 s5 v1 v2 w1 w2 h4 h5 hs1 hs2 hg
        generalize srt key l a b = L3 at *
        generalize srt key (rot l st m en) a mid = L2 at *
        generalize rot l st m en = L1 at *
        rw [← een] at cR c3
        have t1 : (st < m ∧ m < en) ∨ (¬ (st < m ∧ m < en) ∧ l = L1) := (Classical.em _).imp id fun h => ⟨h, n1 h⟩
        have t2 : (a < st ∧ st < mid) ∨ (¬ (a < st ∧ st < mid) ∧ L1 = L2) := (Classical.em _).imp id fun h => ⟨h, n2 h⟩
        have t3 : (mid < en ∧ en < b) ∨ (¬ (mid < en ∧ en < b) ∧ L2 = L3) := (Classical.em _).imp id fun h => ⟨h, n3 h⟩
        clear n1 n2 n3
        rcases t1 with g1 | ⟨g1, rfl⟩ <;> rcases t2 with g2 | ⟨g2, rfl⟩ <;> rcases t3 with g3 | ⟨g3, rfl⟩
        all_goals
          repeat' (first | ((with_reducible refine kAL ?_); (first | (refine kL 0 rfl ?_; (first | refine A_mt rfl rfl rfl rfl ?_ | refine A_move rfl rfl _ (.inl rfl) (y := .sl _ _ _) rfl ?_ | refine A_move rfl rfl _ (.inl rfl) (y := .fn _ _ _) rfl ?_)) | (refine kL 105 rfl ?_; (first | refine A_sub rfl rfl 3 3 _ _ rfl rfl rfl (by first | exact wi | rfl) ?_ | refine A_add rfl rfl 3 3 _ _ rfl rfl rfl (by first | exact wi | rfl) ?_ | refine A_cmp (d := 151) rfl rfl (c := true) .lss 3 3 _ _ rfl rfl rfl (by exact congrArg some (decide_eq_true (by (try (dsimp only; fail_if_success done)); omega))) ?_ | refine A_cmp (d := 151) rfl rfl (c := false) .lss 3 3 _ _ rfl rfl rfl (by exact congrArg some (decide_eq_false (by (try (dsimp only; fail_if_success done)); omega))) ?_ | refine A_cmp (d := 180) rfl rfl (c := true) .lss 3 3 _ _ rfl rfl rfl (by exact congrArg some (decide_eq_true (by (try (dsimp only; fail_if_success done)); omega))) ?_ | refine A_cmp (d := 184) rfl rfl (c := true) .lss 3 3 _ _ rfl rfl rfl (by exact congrArg some (decide_eq_true (by (try (dsimp only; fail_if_success done)); omega))) ?_ | refine A_cmp (d := 184) rfl rfl (c := false) .lss 3 3 _ _ rfl rfl rfl (by exact congrArg some (decide_eq_false (by (try (dsimp only; fail_if_success done)); omega))) ?_ | refine A_cmp (d := 194) rfl rfl (c := true) .lss 3 3 _ _ rfl rfl rfl (by exact congrArg some (decide_eq_true (by (try (dsimp only; fail_if_success done)); omega))) ?_ | refine A_cmp (d := 194) rfl rfl (c := false) .lss 3 3 _ _ rfl rfl rfl (by exact congrArg some (decide_eq_false (by (try (dsimp only; fail_if_success done)); omega))) ?_ | refine A_cmp (d := 198) rfl rfl (c := true) .lss 3 3 _ _ rfl rfl rfl (by exact congrArg some (decide_eq_true (by (try (dsimp only; fail_if_success done)); omega))) ?_ | refine A_cmp (d := 198) rfl rfl (c := false) .lss 3 3 _ _ rfl rfl rfl (by exact congrArg some (decide_eq_false (by (try (dsimp only; fail_if_success done)); omega))) ?_ | refine A_cmp (d := 208) rfl rfl (c := true) .lss 3 3 _ _ rfl rfl rfl (by exact congrArg some (decide_eq_true (by (try (dsimp only; fail_if_success done)); omega))) ?_ | refine A_cmp (d := 212) rfl rfl (c := true) .lss 3 3 _ _ rfl rfl rfl (by exact congrArg some (decide_eq_true (by (try (dsimp only; fail_if_success done)); omega))) ?_ | refine A_cmp (d := 212) rfl rfl (c := false) .lss 3 3 _ _ rfl rfl rfl (by exact congrArg some (decide_eq_false (by (try (dsimp only; fail_if_success done)); omega))) ?_)) | refine A_as rfl rfl rfl rfl ?_ | refine A_conv rfl rfl 3 143 _ rfl ud3 ud143 rfl (by exact wu) ?_ | (refine kL 4585 rfl ?_; refine A_shr rfl rfl 143 143 _ _ rfl rfl rfl (by decide) (fdiv_lit (m := 2) rfl (by decide)) ?_) | refine A_conv rfl rfl 143 3 _ rfl ud143 ud3 rfl (by exact wi) ?_ | refine A_pick rfl rfl _ _ _ rfl rfl rfl rfl rfl ?_ | (refine kL 4042 rfl ?_; (refine A_callio rfl rfl Try.func126 (by kernel_rfl) (by kernel_rfl) rfl [0] (by decide) (cR ?zq0) (by repeat (first | exact .nil | refine .cons rfl ?_ ?_ | exact .row)) (by ((repeat (first | exact .nil | exact .sel rfl | refine .cons ?_ ?_ | exact .t _ | exact hps _ _)); (first | done | fail))) qL (by (try simp only [setSel, upO, upA, upF, gIO, List.map_cons, List.map_nil, List.drop_succ_cons, List.drop_zero, List.drop_nil, List.length_cons, List.length_nil, List.set_cons_zero, List.set_cons_succ, List.cons_append, List.nil_append, List.append_nil, List.getElem?_cons_zero, List.getElem?_cons_succ, List.getElem?_nil, Nat.zero_add, Nat.reduceAdd, Nat.reduceSub]); rfl) (by (try simp only [setSel, upO, upA, upF, gIO, List.map_cons, List.map_nil, List.drop_succ_cons, List.drop_zero, List.drop_nil, List.length_cons, List.length_nil, List.set_cons_zero, List.set_cons_succ, List.cons_append, List.nil_append, List.append_nil, List.getElem?_cons_zero, List.getElem?_cons_succ, List.getElem?_nil, Nat.zero_add, Nat.reduceAdd, Nat.reduceSub]); rfl) ?_; (case zq0 => omega))) | (refine kL 3978 rfl ?_; (first | (refine A_callio rfl rfl Try.func124 (by kernel_rfl) (by kernel_rfl) rfl [0] (by decide) (c2 ?zq0) (by repeat (first | exact .nil | refine .cons rfl ?_ ?_ | exact .row)) (by ((repeat (first | exact .nil | exact .sel rfl | refine .cons ?_ ?_ | exact .t _ | exact hps _ _)); (first | done | fail))) qL (by (try simp only [setSel, upO, upA, upF, gIO, List.map_cons, List.map_nil, List.drop_succ_cons, List.drop_zero, List.drop_nil, List.length_cons, List.length_nil, List.set_cons_zero, List.set_cons_succ, List.cons_append, List.nil_append, List.append_nil, List.getElem?_cons_zero, List.getElem?_cons_succ, List.getElem?_nil, Nat.zero_add, Nat.reduceAdd, Nat.reduceSub]); rfl) (by (try simp only [setSel, upO, upA, upF, gIO, List.map_cons, List.map_nil, List.drop_succ_cons, List.drop_zero, List.drop_nil, List.length_cons, List.length_nil, List.set_cons_zero, List.set_cons_succ, List.cons_append, List.nil_append, List.append_nil, List.getElem?_cons_zero, List.getElem?_cons_succ, List.getElem?_nil, Nat.zero_add, Nat.reduceAdd, Nat.reduceSub]); rfl) ?_; (case zq0 => omega)) | (refine A_callio rfl rfl Try.func124 (by kernel_rfl) (by kernel_rfl) rfl [0] (by decide) (c3 ?zq0) (by repeat (first | exact .nil | refine .cons rfl ?_ ?_ | exact .row)) (by ((repeat (first | exact .nil | exact .sel rfl | refine .cons ?_ ?_ | exact .t _ | exact hps _ _)); (first | done | fail))) qL (by (try simp only [setSel, upO, upA, upF, gIO, List.map_cons, List.map_nil, List.drop_succ_cons, List.drop_zero, List.drop_nil, List.length_cons, List.length_nil, List.set_cons_zero, List.set_cons_succ, List.cons_append, List.nil_append, List.append_nil, List.getElem?_cons_zero, List.getElem?_cons_succ, List.getElem?_nil, Nat.zero_add, Nat.reduceAdd, Nat.reduceSub]); rfl) (by (try simp only [setSel, upO, upA, upF, gIO, List.map_cons, List.map_nil, List.drop_succ_cons, List.drop_zero, List.drop_nil, List.length_cons, List.length_nil, List.set_cons_zero, List.set_cons_succ, List.cons_append, List.nil_append, List.append_nil, List.getElem?_cons_zero, List.getElem?_cons_succ, List.getElem?_nil, Nat.zero_add, Nat.reduceAdd, Nat.reduceSub]); rfl) ?_; (case zq0 => omega)))) | refine AL.nil ?_ | refine AL.skip rfl rfl ?_)) | ((with_reducible refine kRG ?_); (first | (refine kR 0 rfl ?_; (first | refine R_mt rfl rfl rfl rfl ?_ | refine R_move rfl rfl _ (.inl rfl) (y := .sl _ _ _) rfl ?_ | refine R_move rfl rfl _ (.inl rfl) (y := .fn _ _ _) rfl ?_)) | (refine kR 710 rfl ?_; refine R_idx_sl rfl rfl 22 _ _ rfl ud22 inf3 rfl rfl (by first | (simp <;> fail) | fail) rfl (by omega) _ (by exact rfl) (by omega) ?_) | refine R_sub rfl rfl 3 3 _ _ rfl rfl rfl (by exact wi) ?_)) | (with_reducible (first | refine wk0 ?_ | refine wk1 ?_ | refine wk2 ?_ | refine wk4 ?_ | refine wk7 ?_ | refine wka ?_ | refine wkc ?_ | refine wkd ?_)) | refine kct rfl ?_ | refine kcf rfl ?_ | with_reducible refine AW.at_region _ ?_ | refine AW.at_draw 35 mixed 2 [[], [], [], [], [2, 3], [1, 2, 3, 4], [1, 2, 3, 4, 5], [], [], [7, 8], [7, 8, 9], [0, 1, 2, 3, 4, 5, 6, 7, 8, 9, 10], [0, 1, 2, 3, 4, 5, 6, 7, 8, 9, 10, 11], [0, 1, 2, 3, 4, 5, 6, 7, 8, 9, 10, 11, 12]] qR ?_)
          all_goals first | (exfalso; omega) | (exact Fin.q Try.results124 .nil [])
  · obtain ⟨lo, elo⟩ : ∃ lo : Int, lo = (a : Int) := ⟨_, rfl⟩
    obtain ⟨hi, ehi⟩ : ∃ hi : Int, hi = (m : Int) := ⟨_, rfl⟩
    repeat' (first | ((with_reducible refine kAL ?_); (first | refine A_mt rfl rfl rfl rfl ?_ | (refine kL 105 rfl ?_; (first | refine A_sub rfl rfl 3 3 _ _ rfl rfl rfl (by first | exact wi | rfl) ?_ | refine A_cmp (d := 28) rfl rfl (c := false) .eql 3 3 _ _ rfl rfl rfl (by exact congrArg some (decide_eq_false (by (try (dsimp only; fail_if_success done)); omega))) ?_ | refine A_add rfl rfl 3 3 _ _ rfl rfl rfl (by first | exact wi | rfl) ?_ | refine A_cmp (d := 80) rfl rfl (c := false) .eql 3 3 _ _ rfl rfl rfl (by exact congrArg some (decide_eq_false (by (try (dsimp only; fail_if_success done)); omega))) ?_ | refine A_cmp (d := 140) rfl rfl (c := false) .gtr 3 3 _ _ rfl rfl rfl (by exact congrArg some (decide_eq_false (by (try (dsimp only; fail_if_success done)); omega))) ?_)) | refine A_as rfl rfl rfl rfl ?_ | refine A_conv rfl rfl 3 143 _ rfl ud3 ud143 rfl (by exact wu) ?_ | (refine kL 4585 rfl ?_; refine A_shr rfl rfl 143 143 _ _ rfl rfl rfl (by decide) (fdiv_lit (m := 2) rfl (by decide)) ?_) | refine A_conv rfl rfl 143 3 _ rfl ud143 ud3 rfl (by exact wi) ?_ | refine AL.nil ?_)) | (with_reducible (first | refine wk0 ?_ | refine wk1 ?_ | refine wk2 ?_ | refine wkd ?_)) | refine kcf rfl ?_ | with_reducible refine AW.at_region _ ?_)
    all_goals first | (exfalso; omega) | skip
    rw [emid]
    refine AW.loopP (fun (z : Int × Int) => lo ≤ z.1 ∧ z.1 ≤ z.2 ∧ z.2 ≤ hi ∧ (lo < z.1 → kat key l (z.1 - 1).toNat ≤ kat key l ((mid : Int) + m - 1 - (z.1 - 1)).toNat) ∧ (z.2 < hi → kat key l ((mid : Int) + m - 1 - z.2).toNat < kat key l z.2.toNat)) (fun (z : Int × Int) => (pu (pu (pu (pu (pu (pu (pu (pu (pu (pu (fun _ => .any) 0 (.sl 0 k l.length)) 1 (i64 a)) 2 (i64 m)) 3 (i64 b)) 4 (.fn (.func f) fi cap)) 18 (i64 mid)) 19 (i64 ((mid : Int) + m))) 20 (i64 z.1)) 21 (i64 z.2)) 22 (i64 ((mid : Int) + m - 1)))) (fun (z : Int × Int) => [.row k 3 1 (l.map tI)]) (fun (z : Int × Int) => (z.2 - z.1).toNat) ((lo, hi)) ?_ ?_ ?_
    · exact ⟨Int.le_refl _, by dsimp only; omega, Int.le_refl _, fun h => by dsimp only at h; omega, fun h => by dsimp only at h; omega⟩
    · subst elo ehi; exact Wk.cq 1
    · rintro ⟨i, j⟩ ⟨h1, h2, h3, h4, h5⟩
      dsimp only at h1 h2 h3 h4 h5 ⊢
      by_cases hij : i < j
      · obtain ⟨y, hy⟩ : ∃ y, l[((i + j) / 2).toNat]? = some y := ⟨_, List.getElem?_eq_getElem (by omega)⟩
        obtain ⟨x, hx⟩ : ∃ x, l[((mid : Int) + m - 1 - (i + j) / 2).toNat]? = some x := ⟨_, List.getElem?_eq_getElem (by omega)⟩
        have ky := kat_of (key := key) hy
        have kx := kat_of (key := key) hx
        obtain ⟨c, hc0, hcv⟩ := hg x (List.mem_of_getElem? hx) y (List.mem_of_getElem? hy)
        by_cases hk : key x < key y
        · have hcn := hc0.2 hk
          repeat' (first | ((with_reducible refine kAL ?_); (first | refine A_mt rfl rfl rfl rfl ?_ | (refine kL 105 rfl ?_; (first | refine A_add rfl rfl 3 3 _ _ rfl rfl rfl (by first | exact wi | rfl) ?_ | refine A_cmp (d := 151) rfl rfl (c := true) .lss 3 3 _ _ rfl rfl rfl (by exact congrArg some (decide_eq_true (by (try (dsimp only; fail_if_success done)); omega))) ?_)) | refine A_as rfl rfl rfl rfl ?_ | refine A_conv rfl rfl 3 143 _ rfl ud3 ud143 rfl (by exact wu) ?_ | (refine kL 4585 rfl ?_; refine A_shr rfl rfl 143 143 _ _ rfl rfl rfl (by decide) (fdiv_lit (m := 2) rfl (by decide)) ?_) | refine A_conv rfl rfl 143 3 _ rfl ud143 ud3 rfl (by exact wi) ?_ | refine AL.nil ?_)) | ((with_reducible refine kRG ?_); (first | (refine kR 0 rfl ?_; (first | refine R_mt rfl rfl rfl rfl ?_ | refine R_move rfl rfl _ (.inl rfl) (y := .sl _ _ _) rfl ?_ | refine R_move rfl rfl _ (.inl rfl) (y := .fn _ _ _) rfl ?_)) | (refine kR 710 rfl ?_; refine R_idx_sl rfl rfl 22 _ _ rfl ud22 inf3 rfl rfl (by first | (simp <;> fail) | fail) rfl (by omega) _ (by exact rfl) (by omega) ?_) | refine R_load_rp rfl rfl 3 _ rfl ud3 rfl rfl rfl (by exact map_get (by assumption)) rfl ?_ | (refine kR 105 rfl ?_; (first | refine R_sub rfl rfl 3 3 _ _ rfl rfl rfl (by first | exact wi | rfl) ?_ | refine R_cmp (d := 170) rfl rfl (c := true) .lss 3 3 _ _ rfl rfl rfl (by exact congrArg some (decide_eq_true (by (try (dsimp only; fail_if_success done)); omega))) ?_)) | refine R_not rfl rfl _ _ rfl rfl ?_ | (refine kR 11 rfl ?_; (refine R_callv rfl rfl rfl rfl (hcv) (acc := _) rfl (fun h' hh => by ((repeat (first | exact .nil | refine .cons ?_ ?_ | exact .t _)); (first | done | fail))) rfl rfl ?_)) | refine RG.nil ⟨by kernel_rfl, ?_⟩)) | (with_reducible (first | refine wk0 ?_ | refine wk1 ?_ | refine wk2 ?_ | refine wk5 ?_ | refine wkd ?_)) | refine kct rfl ?_ | refine kcf rfl ?_ | with_reducible refine AW.at_region _ ?_ | refine AW.at_draw 35 mixed 2 [[], [], [], [], [2, 3], [1, 2, 3, 4], [1, 2, 3, 4, 5], [], [], [7, 8], [7, 8, 9], [0, 1, 2, 3, 4, 5, 6, 7, 8, 9, 10], [0, 1, 2, 3, 4, 5, 6, 7, 8, 9, 10, 11], [0, 1, 2, 3, 4, 5, 6, 7, 8, 9, 10, 11, 12]] qR ?_)
          all_goals first | (exfalso; omega) | skip
          refine ⟨(i, (i + j) / 2), ⟨h1, by dsimp only; omega, by dsimp only; omega, h4, fun _ => ?_⟩, by dsimp only; omega, ?_⟩
          · dsimp only; rw [ky, kx]; exact hk
          · exact Wk.cq 1
        · have hcn : ¬ c < 0 := fun h => hk (hc0.1 h)
          repeat' (first | ((with_reducible refine kAL ?_); (first | refine A_mt rfl rfl rfl rfl ?_ | (refine kL 105 rfl ?_; (first | refine A_add rfl rfl 3 3 _ _ rfl rfl rfl (by first | exact wi | rfl) ?_ | refine A_cmp (d := 151) rfl rfl (c := true) .lss 3 3 _ _ rfl rfl rfl (by exact congrArg some (decide_eq_true (by (try (dsimp only; fail_if_success done)); omega))) ?_)) | refine A_as rfl rfl rfl rfl ?_ | refine A_conv rfl rfl 3 143 _ rfl ud3 ud143 rfl (by exact wu) ?_ | (refine kL 4585 rfl ?_; refine A_shr rfl rfl 143 143 _ _ rfl rfl rfl (by decide) (fdiv_lit (m := 2) rfl (by decide)) ?_) | refine A_conv rfl rfl 143 3 _ rfl ud143 ud3 rfl (by exact wi) ?_ | refine AL.nil ?_)) | ((with_reducible refine kRG ?_); (first | (refine kR 0 rfl ?_; (first | refine R_mt rfl rfl rfl rfl ?_ | refine R_move rfl rfl _ (.inl rfl) (y := .sl _ _ _) rfl ?_ | refine R_move rfl rfl _ (.inl rfl) (y := .fn _ _ _) rfl ?_)) | (refine kR 710 rfl ?_; refine R_idx_sl rfl rfl 22 _ _ rfl ud22 inf3 rfl rfl (by first | (simp <;> fail) | fail) rfl (by omega) _ (by exact rfl) (by omega) ?_) | refine R_load_rp rfl rfl 3 _ rfl ud3 rfl rfl rfl (by exact map_get (by assumption)) rfl ?_ | (refine kR 105 rfl ?_; (first | refine R_sub rfl rfl 3 3 _ _ rfl rfl rfl (by first | exact wi | rfl) ?_ | refine R_cmp (d := 170) rfl rfl (c := false) .lss 3 3 _ _ rfl rfl rfl (by exact congrArg some (decide_eq_false (by (try (dsimp only; fail_if_success done)); omega))) ?_)) | refine R_not rfl rfl _ _ rfl rfl ?_ | (refine kR 11 rfl ?_; (refine R_callv rfl rfl rfl rfl (hcv) (acc := _) rfl (fun h' hh => by ((repeat (first | exact .nil | refine .cons ?_ ?_ | exact .t _)); (first | done | fail))) rfl rfl ?_)) | refine RG.nil ⟨by kernel_rfl, ?_⟩)) | (with_reducible (first | refine wk0 ?_ | refine wk1 ?_ | refine wk2 ?_ | refine wk5 ?_ | refine wkd ?_)) | refine kct rfl ?_ | with_reducible refine AW.at_region _ ?_ | refine AW.at_draw 35 mixed 2 [[], [], [], [], [2, 3], [1, 2, 3, 4], [1, 2, 3, 4, 5], [], [], [7, 8], [7, 8, 9], [0, 1, 2, 3, 4, 5, 6, 7, 8, 9, 10], [0, 1, 2, 3, 4, 5, 6, 7, 8, 9, 10, 11], [0, 1, 2, 3, 4, 5, 6, 7, 8, 9, 10, 11, 12]] qR ?_)
          all_goals first | (exfalso; omega) | skip
          refine ⟨((i + j) / 2 + 1, j), ⟨by dsimp only; omega, by dsimp only; omega, h3, fun _ => ?_, h5⟩, by dsimp only; omega, ?_⟩
          · dsimp only; rw [Int.add_sub_cancel, ky, kx]; omega
          · exact Wk.cq 1
      · obtain rfl : i = j := by omega
        obtain ⟨st, rfl⟩ : ∃ n : Nat, i = n := ⟨i.toNat, by omega⟩
        obtain ⟨en, een⟩ : ∃ en : Nat, (mid : Int) + m - st = en := ⟨((mid : Int) + m - st).toNat, by omega⟩
        have q1 : a ≤ st := by omega
        have q2 : st ≤ m := by omega
        have q3 : m ≤ en := by omega
        have q4 : en ≤ b := by omega
        have q5 : st ≤ mid := by omega
        obtain ⟨s1, s2, s3, s4, s5⟩ := merge_mid (mid := mid) q1 q2 q3 q4 hb (by omega) hs1 hs2 (fun g1 g2 => by
          have := h4 (by omega)
          rwa [show ((st : Int) - 1).toNat = st - 1 by omega, show ((mid : Int) + m - 1 - ((st : Int) - 1)).toNat = en by omega] at this) (fun g1 g2 => by
          have := h5 (by omega)
          rwa [show ((mid : Int) + m - 1 - (st : Int)).toNat = en - 1 by omega, Int.toNat_natCast] at this)
        have n1 : ¬ (st < m ∧ m < en) → l = rot l st m en := fun h => (rot_same q2 q3 h).symm
        have n2 : ¬ (a < st ∧ st < mid) → rot l st m en = srt key (rot l st m en) a mid := fun h => by
          by_cases e : a = st
          · subst e; exact (srt_srtd (by omega) s2).symm
          · have e2 : st = mid := by omega
            subst e2; exact (srt_srtd q1 s1).symm
        have n3 : ¬ (mid < en ∧ en < b) → srt key (rot l st m en) a mid = srt key l a b := fun h => by
          rw [← s5]
          by_cases e : mid = en
          · subst e; exact (srt_srtd (by omega) s4).symm
          · have e2 : en = b := by omega
            subst e2; exact (srt_srtd (by omega) s3).symm
        have v1 : ∀ z ∈ rot l st m en, z ∈ l := fun z hz => rot_mem hz
        have v2 : ∀ z ∈ srt key (rot l st m en) a mid, z ∈ l := fun z hz => v1 z ((srt_mem (by omega)).1 hz)
        have w1 : (rot l st m en).length = l.length := rot_len q2 q3 (by omega)
        have w2 : (srt key (rot l st m en) a mid).length = l.length := by rw [srt_len (by omega) (by omega), w1]
        have cR : st < m ∧ m < en → _ := fun h => rotate_c f fi cap hup hps l k st m en h.1 h.2 (by omega) hl
        have c2 : a < st ∧ st < mid → _ := fun h => IH (rot l st m en) a st mid (by omega) h.1 h.2 (by omega) (by omega) (hg.mono v1) s1 s2
        have c3 : mid < en ∧ en < b → _ := fun h => IH (srt key (rot l st m en) a mid) mid en b (by omega) h.1 h.2 (by omega) (by omega) (hg.mono v2) s3 s4
        rw [s5] at c3
        rw [w1] at c2
        rw [w2] at c3
        clear s1 s2 s3 s4 s5 v1 v2 w1 w2 h4 h5 hs1 hs2 hg
        generalize srt key l a b = L3 at *
        generalize srt key (rot l st m en) a mid = L2 at *
        generalize rot l st m en = L1 at *
        rw [← een] at cR c3
        have t1 : (st < m ∧ m < en) ∨ (¬ (st < m ∧ m < en) ∧ l = L1) := (Classical.em _).imp id fun h => ⟨h, n1 h⟩
        have t2 : (a < st ∧ st < mid) ∨ (¬ (a < st ∧ st < mid) ∧ L1 = L2) := (Classical.em _).imp id fun h => ⟨h, n2 h⟩
        have t3 : (mid < en ∧ en < b) ∨ (¬ (mid < en ∧ en < b) ∧ L2 = L3) := (Classical.em _).imp id fun h => ⟨h, n3 h⟩
        clear n1 n2 n3
        rcases t1 with g1 | ⟨g1, rfl⟩ <;> rcases t2 with g2 | ⟨g2, rfl⟩ <;> rcases t3 with g3 | ⟨g3, rfl⟩
        all_goals
          repeat' (first | ((with_reducible refine kAL ?_); (first | (refine kL 0 rfl ?_; (first | refine A_mt rfl rfl rfl rfl ?_ | refine A_move rfl rfl _ (.inl rfl) (y := .sl _ _ _) rfl ?_ | refine A_move rfl rfl _ (.inl rfl) (y := .fn _ _ _) rfl ?_)) | (refine kL 105 rfl ?_; (first | refine A_sub rfl rfl 3 3 _ _ rfl rfl rfl (by first | exact wi | rfl) ?_ | refine A_add rfl rfl 3 3 _ _ rfl rfl rfl (by first | exact wi | rfl) ?_ | refine A_cmp (d := 151) rfl rfl (c := true) .lss 3 3 _ _ rfl rfl rfl (by exact congrArg some (decide_eq_true (by (try (dsimp only; fail_if_success done)); omega))) ?_ | refine A_cmp (d := 151) rfl rfl (c := false) .lss 3 3 _ _ rfl rfl rfl (by exact congrArg some (decide_eq_false (by (try (dsimp only; fail_if_success done)); omega))) ?_ | refine A_cmp (d := 180) rfl rfl (c := true) .lss 3 3 _ _ rfl rfl rfl (by exact congrArg some (decide_eq_true (by (try (dsimp only; fail_if_success done)); omega))) ?_ | refine A_cmp (d := 180) rfl rfl (c := false) .lss 3 3 _ _ rfl rfl rfl (by exact congrArg some (decide_eq_false (by (try (dsimp only; fail_if_success done)); omega))) ?_ | refine A_cmp (d := 184) rfl rfl (c := true) .lss 3 3 _ _ rfl rfl rfl (by exact congrArg some (decide_eq_true (by (try (dsimp only; fail_if_success done)); omega))) ?_ | refine A_cmp (d := 194) rfl rfl (c := true) .lss 3 3 _ _ rfl rfl rfl (by exact congrArg some (decide_eq_true (by (try (dsimp only; fail_if_success done)); omega))) ?_ | refine A_cmp (d := 194) rfl rfl (c := false) .lss 3 3 _ _ rfl rfl rfl (by exact congrArg some (decide_eq_false (by (try (dsimp only; fail_if_success done)); omega))) ?_ | refine A_cmp (d := 198) rfl rfl (c := true) .lss 3 3 _ _ rfl rfl rfl (by exact congrArg some (decide_eq_true (by (try (dsimp only; fail_if_success done)); omega))) ?_ | refine A_cmp (d := 198) rfl rfl (c := false) .lss 3 3 _ _ rfl rfl rfl (by exact congrArg some (decide_eq_false (by (try (dsimp only; fail_if_success done)); omega))) ?_ | refine A_cmp (d := 208) rfl rfl (c := true) .lss 3 3 _ _ rfl rfl rfl (by exact congrArg some (decide_eq_true (by (try (dsimp only; fail_if_success done)); omega))) ?_ | refine A_cmp (d := 208) rfl rfl (c := false) .lss 3 3 _ _ rfl rfl rfl (by exact congrArg some (decide_eq_false (by (try (dsimp only; fail_if_success done)); omega))) ?_ | refine A_cmp (d := 212) rfl rfl (c := true) .lss 3 3 _ _ rfl rfl rfl (by exact congrArg some (decide_eq_true (by (try (dsimp only; fail_if_success done)); omega))) ?_ | refine A_cmp (d := 212) rfl rfl (c := false) .lss 3 3 _ _ rfl rfl rfl (by exact congrArg some (decide_eq_false (by (try (dsimp only; fail_if_success done)); omega))) ?_)) | refine A_as rfl rfl rfl rfl ?_ | refine A_conv rfl rfl 3 143 _ rfl ud3 ud143 rfl (by exact wu) ?_ | (refine kL 4585 rfl ?_; refine A_shr rfl rfl 143 143 _ _ rfl rfl rfl (by decide) (fdiv_lit (m := 2) rfl (by decide)) ?_) | refine A_conv rfl rfl 143 3 _ rfl ud143 ud3 rfl (by exact wi) ?_ | refine A_pick rfl rfl _ _ _ rfl rfl rfl rfl rfl ?_ | (refine kL 4042 rfl ?_; (refine A_callio rfl rfl Try.func126 (by kernel_rfl) (by kernel_rfl) rfl [0] (by decide) (cR ?zq0) (by repeat (first | exact .nil | refine .cons rfl ?_ ?_ | exact .row)) (by ((repeat (first | exact .nil | exact .sel rfl | refine .cons ?_ ?_ | exact .t _ | exact hps _ _)); (first | done | fail))) qL (by (try simp only [setSel, upO, upA, upF, gIO, List.map_cons, List.map_nil, List.drop_succ_cons, List.drop_zero, List.drop_nil, List.length_cons, List.length_nil, List.set_cons_zero, List.set_cons_succ, List.cons_append, List.nil_append, List.append_nil, List.getElem?_cons_zero, List.getElem?_cons_succ, List.getElem?_nil, Nat.zero_add, Nat.reduceAdd, Nat.reduceSub]); rfl) (by (try simp only [setSel, upO, upA, upF, gIO, List.map_cons, List.map_nil, List.drop_succ_cons, List.drop_zero, List.drop_nil, List.length_cons, List.length_nil, List.set_cons_zero, List.set_cons_succ, List.cons_append, List.nil_append, List.append_nil, List.getElem?_cons_zero, List.getElem?_cons_succ, List.getElem?_nil, Nat.zero_add, Nat.reduceAdd, Nat.reduceSub]); rfl) ?_; (case zq0 => omega))) | (refine kL 3978 rfl ?_; (first | (refine A_callio rfl rfl Try.func124 (by kernel_rfl) (by kernel_rfl) rfl [0] (by decide) (c2 ?zq0) (by repeat (first | exact .nil | refine .cons rfl ?_ ?_ | exact .row)) (by ((repeat (first | exact .nil | exact .sel rfl | refine .cons ?_ ?_ | exact .t _ | exact hps _ _)); (first | done | fail))) qL (by (try simp only [setSel, upO, upA, upF, gIO, List.map_cons, List.map_nil, List.drop_succ_cons, List.drop_zero, List.drop_nil, List.length_cons, List.length_nil, List.set_cons_zero, List.set_cons_succ, List.cons_append, List.nil_append, List.append_nil, List.getElem?_cons_zero, List.getElem?_cons_succ, List.getElem?_nil, Nat.zero_add, Nat.reduceAdd, Nat.reduceSub]); rfl) (by (try simp only [setSel, upO, upA, upF, gIO, List.map_cons, List.map_nil, List.drop_succ_cons, List.drop_zero, List.drop_nil, List.length_cons, List.length_nil, List.set_cons_zero, List.set_cons_succ, List.cons_append, List.nil_append, List.append_nil, List.getElem?_cons_zero, List.getElem?_cons_succ, List.getElem?_nil, Nat.zero_add, Nat.reduceAdd, Nat.reduceSub]); rfl) ?_; (case zq0 => omega)) | (refine A_callio rfl rfl Try.func124 (by kernel_rfl) (by kernel_rfl) rfl [0] (by decide) (c3 ?zq0) (by repeat (first | exact .nil | refine .cons rfl ?_ ?_ | exact .row)) (by ((repeat (first | exact .nil | exact .sel rfl | refine .cons ?_ ?_ | exact .t _ | exact hps _ _)); (first | done | fail))) qL (by (try simp only [setSel, upO, upA, upF, gIO, List.map_cons, List.map_nil, List.drop_succ_cons, List.drop_zero, List.drop_nil, List.length_cons, List.length_nil, List.set_cons_zero, List.set_cons_succ, List.cons_append, List.nil_append, List.append_nil, List.getElem?_cons_zero, List.getElem?_cons_succ, List.getElem?_nil, Nat.zero_add, Nat.reduceAdd, Nat.reduceSub]); rfl) (by (try simp only [setSel, upO, upA, upF, gIO, List.map_cons, List.map_nil, List.drop_succ_cons, List.drop_zero, List.drop_nil, List.length_cons, List.length_nil, List.set_cons_zero, List.set_cons_succ, List.cons_append, List.nil_append, List.append_nil, List.getElem?_cons_zero, List.getElem?_cons_succ, List.getElem?_nil, Nat.zero_add, Nat.reduceAdd, Nat.reduceSub]); rfl) ?_; (case zq0 => omega)))) | refine AL.nil ?_ | refine AL.skip rfl rfl ?_)) | ((with_reducible refine kRG ?_); (first | (refine kR 0 rfl ?_; (first | refine R_mt rfl rfl rfl rfl ?_ | refine R_move rfl rfl _ (.inl rfl) (y := .sl _ _ _) rfl ?_ | refine R_move rfl rfl _ (.inl rfl) (y := .fn _ _ _) rfl ?_)) | (refine kR 710 rfl ?_; refine R_idx_sl rfl rfl 22 _ _ rfl ud22 inf3 rfl rfl (by first | (simp <;> fail) | fail) rfl (by omega) _ (by exact rfl) (by omega) ?_) | refine R_sub rfl rfl 3 3 _ _ rfl rfl rfl (by exact wi) ?_)) | (with_reducible (first | refine wk0 ?_ | refine wk1 ?_ | refine wk2 ?_ | refine wk4 ?_ | refine wk7 ?_ | refine wka ?_ | refine wkc ?_ | refine wkd ?_)) | refine kct rfl ?_ | refine kcf rfl ?_ | with_reducible refine AW.at_region _ ?_ | refine AW.at_draw 35 mixed 2 [[], [], [], [], [2, 3], [1, 2, 3, 4], [1, 2, 3, 4, 5], [], [], [7, 8], [7, 8, 9], [0, 1, 2, 3, 4, 5, 6, 7, 8, 9, 10], [0, 1, 2, 3, 4, 5, 6, 7, 8, 9, 10, 11], [0, 1, 2, 3, 4, 5, 6, 7, 8, 9, 10, 11, 12]] qR ?_)
          all_goals first | (exfalso; omega) | (exact Fin.q Try.results124 .nil [])
include hup hps in
theorem symMerge_c : ∀ (N : Nat) (l : List Int) (a m b : Nat), b - a = N → a < m → m < b → b ≤ l.length → l.length ≤ 1152921504606846976 → CmpV (.fn (.func f) fi cap) key l → srtd key (seg l a m) → srtd key (seg l m b) →
    Cio Try.prog 124 [.sl 0 k l.length, i64 a, i64 m, i64 b, .fn (.func f) fi cap] [.row k 3 1 (l.map tI)] (.tup []) [.row k 3 1 ((srt key l a b).map tI)] := by
  intro N
  induction N using Nat.strongRecOn with
  | _ N ih =>
    intro l a m b hN h1 h2 h3 h4 h5 h6 h7
    by_cases e1 : m = a + 1
    · exact merge1_c f fi cap key hup k l a m b e1 h2 h3 h4 h5 h7
    · by_cases e2 : b = m + 1
      · exact merge2_c f fi cap key hup k l a m b (by omega) e2 h3 h4 h5 h6
      · exact merge3_c f fi cap key hup hps k l a m b (by omega) (by omega) h3 h4 h5 h6 h7 fun l a' m' b' g0 => ih (b' - a') (by omega) l a' m' b' rfl
end
end Go.Proofs.Ytphcebioiipdpaa


namespace Go.Proofs.Ytphcebioiipdpaa
set_option linter.unusedVariables false
set_option linter.unusedSimpArgs false
set_option linter.unnecessarySimpa false
open Go.RowKit
set_option maxHeartbeats 32000000
attribute [local irreducible] AL AW RG Fin C Cd Cio thenQ blockQ retQ
set_option maxRecDepth 100000
set_option maxHeartbeats 16000000 in
theorem stable_c (f : FuncId) (fi cap : List AV) (key : Int → Int) (l : List Int) (k : Nat) (hl : l.length ≤ 1152921504606846976) (hg : CmpV (.fn (.func f) fi cap) key l)
    (hup : upB (keepG 1) (.fn (.func f) fi cap) = .fn (.func f) fi cap) (hps : ∀ heap sel, Pass heap sel (.fn (.func f) fi cap) (.fn (.func f) fi cap)) :
    Cio Try.prog 118 [.sl 0 k l.length, i64 l.length, .fn (.func f) fi cap] [.row k 3 1 (l.map tI)] (.tup []) [.row k 3 1 ((isort key l).map tI)] := by
  refine Cio.enter' Try.func118 rfl Try.ntmps118 rfl qM ?_
  repeat' (first | ((with_reducible refine kAL ?_); (first | refine A_as rfl rfl rfl rfl ?_ | refine A_mt rfl rfl rfl rfl ?_ | refine AL.nil ?_)) | with_reducible refine AW.at_region _ ?_ | (with_reducible (first | refine wk0 ?_ | refine wk1 ?_ | refine wk2 ?_)))
  refine AW.loopP (fun (x : Nat × List Int) => 20 ∣ x.1 ∧ x.1 ≤ l.length ∧ (∀ c, 20 ∣ c → c < x.1 → srtd key (seg x.2 c (c + 20))) ∧ SE key l x.2 ∧ x.2.length = l.length) (fun (x : Nat × List Int) => (pu (pu (pu (pu (pu (pu (fun _ => .any) 0 (.sl 0 k l.length)) 1 (i64 l.length)) 2 (.fn (.func f) fi cap)) 6 (i64 20)) 7 (i64 x.1)) 8 (i64 ((x.1 + 20 : Nat) : Int)))) (fun (x : Nat × List Int) => [.row k 3 1 (x.2.map tI)]) (fun (x : Nat × List Int) => l.length - x.1) ((0, l)) ?_ ?_ ?_
  · exact ⟨Nat.dvd_zero _, Nat.zero_le _, fun c _ h => by dsimp only at h; omega, SE.refl _, rfl⟩
  · exact Wk.cq 1
  · rintro ⟨a, M⟩ ⟨h2, h3, h4, h5, h6⟩
    dsimp only at h2 h3 h4 h5 h6 ⊢
    have hgM := hg.mono fun x hx => h5.mem.1 hx
    by_cases hb : a + 20 ≤ l.length
    · have c1 := insert_c f fi cap key M k a (a + 20) (by omega) (by omega) (by omega) hgM hup
      rw [h6] at c1
      repeat' (first | ((with_reducible refine kAL ?_); (first | refine A_as rfl rfl rfl rfl ?_ | (refine kL 0 rfl ?_; (first | refine A_mt rfl rfl rfl rfl ?_ | refine A_move rfl rfl _ (.inl rfl) (y := .sl _ _ _) rfl ?_ | refine A_move rfl rfl _ (.inl rfl) (y := .fn _ _ _) rfl ?_)) | (refine kL 105 rfl ?_; (first | refine A_cmp (d := 13) rfl rfl (c := true) .leq 3 3 _ _ rfl rfl rfl (by exact congrArg some (decide_eq_true (by (try (dsimp only; fail_if_success done)); omega))) ?_ | refine A_add rfl rfl 3 3 _ _ rfl rfl rfl (by exact wi) ?_)) | (refine kL 3946 rfl ?_; refine A_callio rfl rfl Try.func123 (by kernel_rfl) (by kernel_rfl) rfl [0] (by decide) (c1) (by repeat (first | exact .nil | refine .cons rfl ?_ ?_ | exact .row)) (by ((repeat (first | exact .nil | exact .sel rfl | refine .cons ?_ ?_ | exact .t _ | exact hps _ _)); (first | done | fail))) qL (by (try simp only [setSel, upO, upA, upF, gIO, List.map_cons, List.map_nil, List.drop_succ_cons, List.drop_zero, List.drop_nil, List.length_cons, List.length_nil, List.set_cons_zero, List.set_cons_succ, List.cons_append, List.nil_append, List.append_nil, List.getElem?_cons_zero, List.getElem?_cons_succ, List.getElem?_nil, Nat.zero_add, Nat.reduceAdd, Nat.reduceSub]); rfl) (by (try simp only [setSel, upO, upA, upF, gIO, List.map_cons, List.map_nil, List.drop_succ_cons, List.drop_zero, List.drop_nil, List.length_cons, List.length_nil, List.set_cons_zero, List.set_cons_succ, List.cons_append, List.nil_append, List.append_nil, List.getElem?_cons_zero, List.getElem?_cons_succ, List.getElem?_nil, Nat.zero_add, Nat.reduceAdd, Nat.reduceSub]); rfl) ?_) | refine AL.nil ?_)) | with_reducible refine AW.at_region _ ?_ | (with_reducible (first | refine wk0 ?_ | refine wk1 ?_ | refine wk2 ?_ | refine wk5 ?_ | refine wkd ?_)) | refine kct rfl ?_)
      all_goals first | (exfalso; omega) | skip
      refine ⟨(a + 20, srt key M a (a + 20)), ⟨Nat.dvd_add h2 (Nat.dvd_refl _), hb, blk_next h2 h4 (by omega), h5.trans (srt_se (by omega)), by dsimp only; rw [srt_len (by omega) (by omega), h6]⟩, by dsimp only; omega, ?_⟩
      exact Wk.cq 1
    · have c1 := insert_c f fi cap key M k a l.length (by omega) (by omega) (by omega) hgM hup
      have f1 := blk_last h2 h4 (by omega) (by omega)
      have f2 := h5.trans (srt_se (key := key) (l := M) (a := a) (b := l.length) (by omega))
      have f3 := srt_len (key := key) (l := M) (a := a) (b := l.length) (by omega) (by omega)
      rw [h6] at c1 f1 f3
      clear h4 h5 hgM
      generalize srt key M a l.length = M1 at *
      repeat' (first | ((with_reducible refine kAL ?_); (first | (refine kL 0 rfl ?_; (first | refine A_mt rfl rfl rfl rfl ?_ | refine A_move rfl rfl _ (.inl rfl) (y := .sl _ _ _) rfl ?_ | refine A_move rfl rfl _ (.inl rfl) (y := .fn _ _ _) rfl ?_)) | refine A_cmp (d := 13) rfl rfl (c := false) .leq 3 3 _ _ rfl rfl rfl (by exact congrArg some (decide_eq_false (by (try (dsimp only; fail_if_success done)); omega))) ?_ | (refine kL 3946 rfl ?_; refine A_callio rfl rfl Try.func123 (by kernel_rfl) (by kernel_rfl) rfl [0] (by decide) (c1) (by repeat (first | exact .nil | refine .cons rfl ?_ ?_ | exact .row)) (by ((repeat (first | exact .nil | exact .sel rfl | refine .cons ?_ ?_ | exact .t _ | exact hps _ _)); (first | done | fail))) qL (by (try simp only [setSel, upO, upA, upF, gIO, List.map_cons, List.map_nil, List.drop_succ_cons, List.drop_zero, List.drop_nil, List.length_cons, List.length_nil, List.set_cons_zero, List.set_cons_succ, List.cons_append, List.nil_append, List.append_nil, List.getElem?_cons_zero, List.getElem?_cons_succ, List.getElem?_nil, Nat.zero_add, Nat.reduceAdd, Nat.reduceSub]); rfl) (by (try simp only [setSel, upO, upA, upF, gIO, List.map_cons, List.map_nil, List.drop_succ_cons, List.drop_zero, List.drop_nil, List.length_cons, List.length_nil, List.set_cons_zero, List.set_cons_succ, List.cons_append, List.nil_append, List.append_nil, List.getElem?_cons_zero, List.getElem?_cons_succ, List.getElem?_nil, Nat.zero_add, Nat.reduceAdd, Nat.reduceSub]); rfl) ?_) | refine AL.nil ?_)) | with_reducible refine AW.at_region _ ?_ | (with_reducible (first | refine wk0 ?_ | refine wk1 ?_ | refine wk2 ?_ | refine wk4 ?_ | refine wk7 ?_ | refine wkc ?_)) | refine kcf rfl ?_)
      all_goals first | (exfalso; omega) | skip
      refine AW.loopP (fun (y : Nat × List Int) => 0 < y.1 ∧ y.1 ≤ 2 * l.length + 20 ∧ (∀ c, y.1 ∣ c → srtd key (seg y.2 c (c + y.1))) ∧ SE key l y.2 ∧ y.2.length = l.length) (fun (y : Nat × List Int) => (pu (pu (pu (pu (fun _ => .any) 0 (.sl 0 k l.length)) 1 (i64 l.length)) 2 (.fn (.func f) fi cap)) 6 (i64 y.1))) (fun (y : Nat × List Int) => [.row k 3 1 (y.2.map tI)]) (fun (y : Nat × List Int) => l.length + 1 - y.1) ((20, M1)) ?_ ?_ ?_
      · exact ⟨by dsimp only; omega, by dsimp only; omega, f1, f2, f3⟩
      · exact Wk.cq 1
      · rintro ⟨d, M2⟩ ⟨g1, g2, g3, g4, g5⟩
        dsimp only at g1 g2 g3 g4 g5 ⊢
        by_cases hd : d < l.length
        · repeat' (first | ((with_reducible refine kAL ?_); (first | refine A_as rfl rfl rfl rfl ?_ | refine A_mt rfl rfl rfl rfl ?_ | (refine kL 105 rfl ?_; (first | refine A_cmp (d := 30) rfl rfl (c := true) .lss 3 3 _ _ rfl rfl rfl (by exact congrArg some (decide_eq_true (by (try (dsimp only; fail_if_success done)); omega))) ?_ | refine A_mul rfl rfl 3 3 _ _ rfl rfl rfl (by exact wi) ?_)) | refine AL.nil ?_)) | with_reducible refine AW.at_region _ ?_ | (with_reducible (first | refine wk0 ?_ | refine wk1 ?_ | refine wk2 ?_ | refine wkd ?_)) | refine kct rfl ?_)
          all_goals first | (exfalso; omega) | skip
          refine AW.loopP (fun (z : Nat × Nat × List Int) => 2 * d ∣ z.1 ∧ z.1 ≤ l.length ∧ z.2.1 = z.1 + 2 * d ∧ (∀ c, 2 * d ∣ c → c < z.1 → srtd key (seg z.2.2 c (c + 2 * d))) ∧ (∀ c, d ∣ c → z.1 ≤ c → srtd key (seg z.2.2 c (c + d))) ∧ SE key l z.2.2 ∧ z.2.2.length = l.length) (fun (z : Nat × Nat × List Int) => (pu (pu (pu (pu (pu (pu (fun _ => .any) 0 (.sl 0 k l.length)) 1 (i64 l.length)) 2 (.fn (.func f) fi cap)) 6 (i64 d)) 7 (i64 z.1)) 8 (i64 z.2.1))) (fun (z : Nat × Nat × List Int) => [.row k 3 1 (z.2.2.map tI)]) (fun (z : Nat × Nat × List Int) => l.length - z.1) ((0, 2 * d, M2)) ?_ ?_ ?_
          · exact ⟨Nat.dvd_zero _, Nat.zero_le _, by dsimp only; omega, fun c _ h => by dsimp only at h; omega, fun c hc _ => g3 c hc, g4, g5⟩
          · exact Wk.cq 1
          · rintro ⟨a, b, M3⟩ ⟨k1, k2, k3, k4, k5, k6, k7⟩
            dsimp only at k1 k2 k3 k4 k5 k6 k7 ⊢
            have hgM := hg.mono fun x hx => k6.mem.1 hx
            have kd : d ∣ a := Nat.dvd_trans (Nat.dvd_mul_left _ _) k1
            have kd2 : d ∣ a + d := Nat.dvd_add kd (Nat.dvd_refl _)
            have t1 := k5 a kd (Nat.le_refl _)
            have t2 := k5 (a + d) kd2 (by omega)
            by_cases hb : b ≤ l.length
            · have cM := symMerge_c f fi cap key hup hps k _ M3 a (a + d) b rfl (by omega) (by omega) (by omega) (by omega) hgM t1 (by rwa [show a + d + d = b by omega] at t2)
              rw [k7] at cM
              have u1 : ∀ c, 2 * d ∣ c → c < b → srtd key (seg (srt key M3 a b) c (c + 2 * d)) := by have := blk_next k1 k4 (by omega); rwa [← k3] at this
              have u2 := blk_others (b := b) k5 (by omega) (by omega)
              have u3 := k6.trans (srt_se (key := key) (l := M3) (a := a) (b := b) (by omega))
              have u4 := srt_len (key := key) (l := M3) (a := a) (b := b) (by omega) (by omega)
              rw [k7] at u4
              generalize srt key M3 a b = M4 at *
              repeat' (first | ((with_reducible refine kAL ?_); (first | refine A_as rfl rfl rfl rfl ?_ | (refine kL 0 rfl ?_; (first | refine A_mt rfl rfl rfl rfl ?_ | refine A_move rfl rfl _ (.inl rfl) (y := .sl _ _ _) rfl ?_ | refine A_move rfl rfl _ (.inl rfl) (y := .fn _ _ _) rfl ?_)) | (refine kL 105 rfl ?_; (first | refine A_add rfl rfl 3 3 _ _ rfl rfl rfl (by first | exact wi | rfl) ?_ | refine A_mul rfl rfl 3 3 _ _ rfl rfl rfl (by first | exact wi | rfl) ?_ | refine A_cmp (d := 35) rfl rfl (c := true) .leq 3 3 _ _ rfl rfl rfl (by exact congrArg some (decide_eq_true (by (try (dsimp only; fail_if_success done)); omega))) ?_)) | (refine kL 3978 rfl ?_; refine A_callio rfl rfl Try.func124 (by kernel_rfl) (by kernel_rfl) rfl [0] (by decide) (cM) (by repeat (first | exact .nil | refine .cons rfl ?_ ?_ | exact .row)) (by ((repeat (first | exact .nil | exact .sel rfl | refine .cons ?_ ?_ | exact .t _ | exact hps _ _)); (first | done | fail))) qL (by (try simp only [setSel, upO, upA, upF, gIO, List.map_cons, List.map_nil, List.drop_succ_cons, List.drop_zero, List.drop_nil, List.length_cons, List.length_nil, List.set_cons_zero, List.set_cons_succ, List.cons_append, List.nil_append, List.append_nil, List.getElem?_cons_zero, List.getElem?_cons_succ, List.getElem?_nil, Nat.zero_add, Nat.reduceAdd, Nat.reduceSub]); rfl) (by (try simp only [setSel, upO, upA, upF, gIO, List.map_cons, List.map_nil, List.drop_succ_cons, List.drop_zero, List.drop_nil, List.length_cons, List.length_nil, List.set_cons_zero, List.set_cons_succ, List.cons_append, List.nil_append, List.append_nil, List.getElem?_cons_zero, List.getElem?_cons_succ, List.getElem?_nil, Nat.zero_add, Nat.reduceAdd, Nat.reduceSub]); rfl) ?_) | refine AL.nil ?_)) | with_reducible refine AW.at_region _ ?_ | (with_reducible (first | refine wk0 ?_ | refine wk1 ?_ | refine wk2 ?_ | refine wk5 ?_ | refine wkd ?_)) | refine kct rfl ?_)
              all_goals first | (exfalso; omega) | skip
              refine ⟨(b, b + 2 * d, M4), ⟨by dsimp only; rw [k3]; exact Nat.dvd_add k1 (Nat.dvd_refl _), hb, rfl, u1, u2, u3, u4⟩, by dsimp only; omega, ?_⟩
              exact Wk.cq 1
            · by_cases hm : a + d < l.length
              · have cM := symMerge_c f fi cap key hup hps k _ M3 a (a + d) l.length rfl (by omega) (by omega) (by omega) (by omega) hgM t1 (by rwa [seg_past (c := l.length) (by omega) (by omega)] at t2)
                rw [k7] at cM
                have u1 : ∀ c, 2 * d ∣ c → srtd key (seg (srt key M3 a l.length) c (c + 2 * d)) := by have := blk_last k1 k4 (by omega) (by omega); rwa [k7] at this
                have u3 := k6.trans (srt_se (key := key) (l := M3) (a := a) (b := l.length) (by omega))
                have u4 := srt_len (key := key) (l := M3) (a := a) (b := l.length) (by omega) (by omega)
                rw [k7] at u4
                rw [Nat.mul_comm] at u1
                generalize srt key M3 a l.length = M4 at *
                repeat' (first | ((with_reducible refine kAL ?_); (first | refine A_as rfl rfl rfl rfl ?_ | (refine kL 0 rfl ?_; (first | refine A_mt rfl rfl rfl rfl ?_ | refine A_move rfl rfl _ (.inl rfl) (y := .sl _ _ _) rfl ?_ | refine A_move rfl rfl _ (.inl rfl) (y := .fn _ _ _) rfl ?_)) | (refine kL 105 rfl ?_; (first | refine A_add rfl rfl 3 3 _ _ rfl rfl rfl (by first | exact wi | rfl) ?_ | refine A_mul rfl rfl 3 3 _ _ rfl rfl rfl (by first | exact wi | rfl) ?_ | refine A_cmp (d := 35) rfl rfl (c := false) .leq 3 3 _ _ rfl rfl rfl (by exact congrArg some (decide_eq_false (by (try (dsimp only; fail_if_success done)); omega))) ?_ | refine A_cmp (d := 54) rfl rfl (c := true) .lss 3 3 _ _ rfl rfl rfl (by exact congrArg some (decide_eq_true (by (try (dsimp only; fail_if_success done)); omega))) ?_)) | (refine kL 3978 rfl ?_; refine A_callio rfl rfl Try.func124 (by kernel_rfl) (by kernel_rfl) rfl [0] (by decide) (cM) (by repeat (first | exact .nil | refine .cons rfl ?_ ?_ | exact .row)) (by ((repeat (first | exact .nil | exact .sel rfl | refine .cons ?_ ?_ | exact .t _ | exact hps _ _)); (first | done | fail))) qL (by (try simp only [setSel, upO, upA, upF, gIO, List.map_cons, List.map_nil, List.drop_succ_cons, List.drop_zero, List.drop_nil, List.length_cons, List.length_nil, List.set_cons_zero, List.set_cons_succ, List.cons_append, List.nil_append, List.append_nil, List.getElem?_cons_zero, List.getElem?_cons_succ, List.getElem?_nil, Nat.zero_add, Nat.reduceAdd, Nat.reduceSub]); rfl) (by (try simp only [setSel, upO, upA, upF, gIO, List.map_cons, List.map_nil, List.drop_succ_cons, List.drop_zero, List.drop_nil, List.length_cons, List.length_nil, List.set_cons_zero, List.set_cons_succ, List.cons_append, List.nil_append, List.append_nil, List.getElem?_cons_zero, List.getElem?_cons_succ, List.getElem?_nil, Nat.zero_add, Nat.reduceAdd, Nat.reduceSub]); rfl) ?_) | refine AL.nil ?_)) | with_reducible refine AW.at_region _ ?_ | (with_reducible (first | refine wk0 ?_ | refine wk2 ?_ | refine wk4 ?_ | refine wk5 ?_ | refine wk7 ?_ | refine wkc ?_)) | refine kct rfl ?_ | refine kcf rfl ?_)
                all_goals first | (exfalso; omega) | skip
                refine ⟨(d * 2, M4), ⟨by dsimp only; omega, by dsimp only; omega, u1, u3, u4⟩, by dsimp only; omega, ?_⟩
                exact Wk.cq 1
              · have u1 : ∀ c, 2 * d ∣ c → srtd key (seg M3 c (c + 2 * d)) := blk_rest k1 k4 k5 (by omega)
                rw [Nat.mul_comm] at u1
                repeat' (first | ((with_reducible refine kAL ?_); (first | refine A_as rfl rfl rfl rfl ?_ | refine A_mt rfl rfl rfl rfl ?_ | (refine kL 105 rfl ?_; (first | refine A_add rfl rfl 3 3 _ _ rfl rfl rfl (by first | exact wi | rfl) ?_ | refine A_mul rfl rfl 3 3 _ _ rfl rfl rfl (by first | exact wi | rfl) ?_ | refine A_cmp (d := 35) rfl rfl (c := false) .leq 3 3 _ _ rfl rfl rfl (by exact congrArg some (decide_eq_false (by (try (dsimp only; fail_if_success done)); omega))) ?_ | refine A_cmp (d := 54) rfl rfl (c := false) .lss 3 3 _ _ rfl rfl rfl (by exact congrArg some (decide_eq_false (by (try (dsimp only; fail_if_success done)); omega))) ?_)) | refine AL.nil ?_)) | with_reducible refine AW.at_region _ ?_ | (with_reducible (first | refine wk0 ?_ | refine wk2 ?_ | refine wk4 ?_ | refine wk5 ?_ | refine wk7 ?_ | refine wkc ?_ | refine wkd ?_)) | refine kcf rfl ?_)
                all_goals first | (exfalso; omega) | skip
                refine ⟨(d * 2, M3), ⟨by dsimp only; omega, by dsimp only; omega, u1, k6, k7⟩, by dsimp only; omega, ?_⟩
                exact Wk.cq 1
        · rw [blk_all g3 g4 (by omega)]
          repeat' (first | ((with_reducible refine kAL ?_); (first | refine A_mt rfl rfl rfl rfl ?_ | refine A_cmp (d := 30) rfl rfl (c := false) .lss 3 3 _ _ rfl rfl rfl (by exact congrArg some (decide_eq_false (by (try (dsimp only; fail_if_success done)); omega))) ?_ | refine AL.nil ?_)) | with_reducible refine AW.at_region _ ?_ | (with_reducible (first | refine wk0 ?_ | refine wk2 ?_ | refine wk4 ?_ | refine wk7 ?_ | refine wka ?_ | refine wkc ?_)) | refine kcf rfl ?_)
          all_goals first | (exfalso; omega) | (exact Fin.q Try.results118 .nil [])
theorem sortStable_c (f : FuncId) (fi cap : List AV) (key : Int → Int) (l : List Int) (k : Nat) (hl : l.length ≤ 1152921504606846976) (hg : CmpV (.fn (.func f) fi cap) key l)
    (hup : upB (keepG 1) (.fn (.func f) fi cap) = .fn (.func f) fi cap) (hps : ∀ heap sel, Pass heap sel (.fn (.func f) fi cap) (.fn (.func f) fi cap)) :
    Cio Try.prog 107 [.sl 0 k l.length, .fn (.func f) fi cap] [.row k 3 1 (l.map tI)] (.tup []) [.row k 3 1 ((isort key l).map tI)] := by
  have hlt : (l.map tI).length = l.length := List.length_map _
  have c1 := stable_c f fi cap key l k hl hg hup hps
  refine Cio.enter' Try.func107 rfl Try.ntmps107 rfl qM ?_
  repeat' (first | ((with_reducible refine kAL ?_); (first | (refine kL 0 rfl ?_; (first | refine A_move rfl rfl _ (.inl rfl) (y := .sl _ _ _) rfl ?_ | refine A_move rfl rfl _ (.inl rfl) (y := .fn _ _ _) rfl ?_)) | refine A_len rfl rfl 22 _ rfl ud22 rfl ?_ | (refine kL 3786 rfl ?_; refine A_callio rfl rfl Try.func118 (by kernel_rfl) (by kernel_rfl) rfl [0] (by decide) (c1) (by repeat (first | exact .nil | refine .cons rfl ?_ ?_ | exact .row)) (by ((repeat (first | exact .nil | exact .sel rfl | refine .cons ?_ ?_ | exact .t _ | exact hps _ _)); (first | done | fail))) qL (by (try simp only [setSel, upO, upA, upF, gIO, List.map_cons, List.map_nil, List.drop_succ_cons, List.drop_zero, List.drop_nil, List.length_cons, List.length_nil, List.set_cons_zero, List.set_cons_succ, List.cons_append, List.nil_append, List.append_nil, List.getElem?_cons_zero, List.getElem?_cons_succ, List.getElem?_nil, Nat.zero_add, Nat.reduceAdd, Nat.reduceSub]); rfl) (by (try simp only [setSel, upO, upA, upF, gIO, List.map_cons, List.map_nil, List.drop_succ_cons, List.drop_zero, List.drop_nil, List.length_cons, List.length_nil, List.set_cons_zero, List.set_cons_succ, List.cons_append, List.nil_append, List.append_nil, List.getElem?_cons_zero, List.getElem?_cons_succ, List.getElem?_nil, Nat.zero_add, Nat.reduceAdd, Nat.reduceSub]); rfl) ?_) | refine AL.nil ?_)) | with_reducible refine AW.at_region _ ?_ | (with_reducible (refine wka ?_)))
  all_goals (exact Fin.q Try.results107 .nil [])
end Go.Proofs.Ytphcebioiipdpaa


namespace Go.Proofs.Ytphcebioiipdpaa
set_option linter.unusedVariables false
set_option linter.unusedSimpArgs false
set_option linter.unnecessarySimpa false
open Go.RowKit
set_option maxHeartbeats 32000000
attribute [local irreducible] AL AW RG Fin C Cd Cio thenQ blockQ retQ
set_option maxRecDepth 100000
end Go.Proofs.Ytphcebioiipdpaa


namespace Go.Proofs.Ytphcebioiipdpaa
set_option linter.unusedVariables false
set_option linter.unusedSimpArgs false
set_option linter.unnecessarySimpa false
open Go.RowKit
set_option maxRecDepth 100000
attribute [local simp] putW_len cutW_len
theorem okW_cut {l : List DWait} {t : Int} (hl : okW l) : okW (cutW l t) := by
  refine ⟨by rw [cutW_len]; exact hl.1, fun x hx => ?_⟩
  unfold cutW at hx
  split at hx
  · rcases List.mem_or_eq_of_mem_set hx with h | rfl
    · exact hl.2 x h
    · exact Nat.zero_le _
  · exact hl.2 x hx
def k8 : List DCase := [⟨2, 8, 0⟩]
def v0 : List DWait := [w0, w0, w0]
def v1 : List DWait := [w0, w0, ⟨true, 1, 4, k8⟩]
def v2 : List DWait := [⟨true, 2, 5, k8⟩, w0, ⟨true, 1, 4, k8⟩]
def v3 : List DWait := [⟨true, 2, 5, k8⟩, w0, w0]
end Go.Proofs.Ytphcebioiipdpaa


namespace Go.Proofs.Ytphcebioiipdpaa
set_option linter.unusedVariables false
set_option linter.unusedSimpArgs false
set_option linter.unnecessarySimpa false
open Go.RowKit
set_option maxHeartbeats 32000000
attribute [local irreducible] AL AW RG Fin C Cd Cio thenQ blockQ retQ
set_option maxRecDepth 100000
def onK (l : List DWait) (h : Int) : Nat → List Int
  | 0 => []
  | k + 1 => if (l.getD k default).on && decide (0 ≤ ixF (isH h) (l.getD k default).cases) then onK l h k ++ [(k : Int)] else onK l h k
theorem onK_next {l : List DWait} {h : Int} {k : Nat} {a : DWait} (ha : l[k]? = some a) : onK l h (k + 1) = if a.on && decide (0 ≤ ixF (isH h) a.cases) then onK l h k ++ [(k : Int)] else onK l h k := by
  rw [onK, getD_of ha]
theorem onK_b (l : List DWait) (h : Int) (k : Nat) : (onK l h k).length ≤ k ∧ ∀ z ∈ onK l h k, 0 ≤ z ∧ z < k := by
  induction k with
  | zero => exact ⟨Nat.le_refl _, fun z hz => by simp [onK] at hz⟩
  | succ k ih =>
    unfold onK
    split
    · refine ⟨by simp; omega, fun z hz => ?_⟩
      rcases List.mem_append.1 hz with hz | hz
      · have := ih.2 z hz; omega
      · simp at hz; omega
    · exact ⟨by omega, fun z hz => by have := ih.2 z hz; omega⟩
structure OS where
  q : Nat
  k : Nat
  n : Nat
  O : List Int
set_option maxHeartbeats 8000000 in
theorem on_c (l : List DWait) (h : Int) (hl : okW l) (hsort : ∀ k, Cio Try.prog 107 [.sl 0 k (onK l h l.length).length, .fn (.func 108) [] [.lp [.ln (l.map tWt)]]] [.row k 3 1 ((onK l h l.length).map tI)] (.tup []) [.row k 3 1 ((isort (tick l) (onK l h l.length)).map tI)]) :
    Cd Try.prog 85 [.ln (l.map tWt), i64 h] (.sl 0 0 (onK l h l.length).length) [.row 0 3 1 ((isort (tick l) (onK l h l.length)).map tI)] := by
  have h0 := hl.1
  have h1 : (l.map tWt).length = l.length := List.length_map _
  first | refine Cd.enter' Try.func85 rfl Try.ntmps85 rfl ?_ | refine Cio.enter' Try.func85 rfl Try.ntmps85 rfl qM ?_ | refine C.enter' Try.func85 rfl Try.ntmps85 rfl qM ?_
  repeat' (first | ((with_reducible refine kAL ?_); (first | refine A_box rfl rfl 26 _ rfl rfl (.push qL qN) ?_ | refine A_box rfl rfl 3 _ rfl rfl (.push qL qN) ?_ | refine A_move rfl rfl _ (.inr rfl) (y := .nl) rfl ?_ | refine A_load rfl rfl 26 _ rfl ud26 rfl rfl rfl rfl ?_ | refine A_len rfl rfl 26 _ rfl ud26 rfl ?_ | refine A_mt rfl rfl rfl rfl ?_ | refine AL.nil ?_)) | with_reducible refine AW.at_region _ ?_ | (with_reducible (first | refine wk0 ?_ | refine wk1 ?_ | refine wk2 ?_)))
  refine AW.wk (Wk.own 5 rfl 3 1 (.push rfl rfl)) ?_
  refine AW.loopP (fun (x : OS) => x.q ≤ l.length ∧ x.O = onK l h x.q ∧ x.n = x.O.length) (fun (x : OS) => (pu (pu (pu (pu (pu (pu (fun _ => .any) 2 (.ptr 0 0)) 3 (.ptr 1 0)) 5 (.sl 2 x.k x.n)) 8 (.ln (l.map tWt))) 9 (i64 (l.map tWt).length)) 10 (i64 x.q))) (fun (x : OS) => [.box 26 [.ln (l.map tWt)], .box 3 [i64 h], .row x.k 3 1 (x.O.map tI)]) (fun (x : OS) => l.length - x.q) (⟨0, 0, 0, []⟩) ?_ ?_ ?_
  · exact ⟨Nat.zero_le _, rfl, rfl⟩
  · exact Wk.cq 3
  · rintro ⟨q, k, n, O⟩ ⟨h2, h3, h4⟩
    dsimp only at h2 h3 h4 ⊢
    subst h4
    have h5 := (onK_b l h q).1
    rw [← h3] at h5
    have h6 : (O.map tI).length = O.length := List.length_map _
    by_cases hq : q < l.length
    · obtain ⟨⟨on, tk, sq, cs⟩, ha⟩ : ∃ a, l[q]? = some a := ⟨_, List.getElem?_eq_getElem hq⟩
      have hn := onK_next (h := h) ha
      rw [← h3] at hn
      dsimp only at hn
      have hcs := hl.at ha
      dsimp only at hcs
      have cC := containsF_c 106 [] [.lp [i64 h]] (isH h) (fun c => ⟨_, _, [], [.lp [i64 h]], rfl, Try.func106, by kernel_rfl, by kernel_rfl, fun _ => .nil, fun _ => .cons (.lpL (.cons (.t _) .nil)) .nil, on1_c h c⟩) rfl (fun _ _ => .fnL .nil (.cons (.lpL (.cons (.t _) .nil)) .nil)) cs (by omega)
      generalize decide (0 ≤ ixF (isH h) cs) = b at cC hn
      cases on <;> cases b
      all_goals
        repeat' (first | ((with_reducible refine kAL ?_); (first | (refine kL 1 rfl ?_; (first | refine A_as rfl rfl rfl rfl ?_ | refine A_move rfl rfl _ (.inr rfl) (y := .sl _ _ _) rfl ?_)) | (refine kL 12 rfl ?_; refine A_append rfl rfl _ _ 22 rfl ud22 inf3 rfl rfl rfl (by first | (simp <;> fail) | fail) (by exact .all rfl (by rfl)) qB qB (by exact app_one (f := tI) (x := _) (by rfl)) qN qS ?_) | (refine kL 0 rfl ?_; (first | refine A_mt rfl rfl rfl rfl ?_ | refine A_move rfl rfl _ (.inl rfl) (y := .sl _ _ _) rfl ?_)) | (refine kL 105 rfl ?_; (first | refine A_cmp (d := 11) rfl rfl (c := true) .lss 3 3 _ _ rfl rfl rfl (by exact congrArg some (decide_eq_true (by (try (dsimp only; fail_if_success done)); omega))) ?_ | refine A_add rfl rfl 3 3 _ _ rfl rfl rfl (by exact wi) ?_)) | (refine kL 838 rfl ?_; refine A_idx rfl rfl 26 _ _ rfl ud26 inf43 (by decide) (by exact .inl rfl) rfl (by omega) _ (by with_reducible exact Int.toNat_natCast _) (by exact map_get (by assumption)) rfl (cs' := [_, _, _, _]) rfl ?_) | refine A_load_lp_agg rfl rfl 43 _ rfl ud43 rfl inf43 rfl (us' := [_, _, _, _]) rfl rfl ?_ | refine A_alloc rfl rfl 43 rfl inf43 (cs := [.t (.v (.bool false)), .t (.v (.int .i64 0)), .t (.v (.int .i64 0)), AV.nl]) rfl (.push qL qN) ?_ | refine A_store rfl rfl 43 _ _ rfl inf43 rfl rfl rfl rfl (Nat.le_of_ble_eq_true rfl) qN qN ?_ | (refine kL 1380 rfl ?_; (first | refine A_field rfl rfl 43 _ 0 rfl ud43 rfl inf4 (by decide) 0 rfl rfl ?_ | refine A_field rfl rfl 43 _ 3 rfl ud43 rfl inf30 (by decide) 3 rfl rfl ?_)) | refine A_load rfl rfl 4 _ rfl ud4 rfl rfl rfl rfl ?_ | refine A_load rfl rfl 30 _ rfl ud30 rfl rfl rfl rfl ?_ | (refine kL 21 rfl ?_; refine A_fn rfl rfl _ _ _ rfl .nil (.cons rfl .nil) ?_) | (refine kL 2634 rfl ?_; refine A_cl rfl rfl Try.func82 rfl (cC) ?_) | refine A_pick rfl rfl _ _ _ rfl rfl rfl rfl rfl ?_ | (refine kL 719 rfl ?_; refine A_lit rfl rfl 22 1 _ rfl ud22 inf3 (.cons rfl .nil) (els := [[_]]) rfl (by exact (rfl : _ = List.map tI [_])) rfl (Nat.ne_of_beq_eq_false rfl) (Nat.le_of_ble_eq_true rfl) (Nat.le_of_ble_eq_true rfl) (.push qL qN) ?_) | refine AL.nil ?_ | refine AL.skip rfl rfl ?_)) | with_reducible refine AW.at_region _ ?_ | (with_reducible (first | refine wk0 ?_ | refine wk1 ?_ | refine wk2 ?_ | refine wk5 ?_ | refine wkd ?_)) | refine kct rfl ?_ | refine kcf rfl ?_)
        all_goals first | (exfalso; omega) | (refine ⟨⟨q + 1, k + 1, O.length + 1, O ++ [(q : Int)]⟩, ⟨by dsimp only; omega, hn.symm, by simp⟩, by dsimp only; omega, ?_⟩; (exact Wk.cq 3); done) | (refine ⟨⟨q + 1, k, O.length, O⟩, ⟨by dsimp only; omega, hn.symm, rfl⟩, by dsimp only; omega, ?_⟩; (exact Wk.cq 3); done)
    · have e : q = l.length := by omega
      subst e
      subst h3
      repeat' (first | ((with_reducible refine kAL ?_); (first | refine A_move rfl rfl _ (.inr rfl) (y := .sl _ _ _) rfl ?_ | refine A_move rfl rfl _ (.inl rfl) (y := .sl _ _ _) rfl ?_ | refine A_cmp (d := 11) rfl rfl (c := false) .lss 3 3 _ _ rfl rfl rfl (by exact congrArg some (decide_eq_false (by (try (dsimp only; fail_if_success done)); omega))) ?_ | (refine kL 21 rfl ?_; refine A_fn rfl rfl _ _ _ rfl .nil (.cons rfl .nil) ?_) | (refine kL 3434 rfl ?_; refine A_callio rfl rfl Try.func107 (by kernel_rfl) (by kernel_rfl) rfl [2] (by decide) (hsort k) (by repeat (first | exact .nil | refine .cons rfl ?_ ?_ | exact .row)) (by ((repeat (first | exact .nil | exact .sel rfl | refine .cons ?_ ?_ | exact .ln _ | refine .boxL rfl rfl rfl ?_ | refine .fnL ?_ ?_)); (first | done | fail))) qL (by (try simp only [setSel, upO, upA, upF, gIO, List.map_cons, List.map_nil, List.drop_succ_cons, List.drop_zero, List.drop_nil, List.length_cons, List.length_nil, List.set_cons_zero, List.set_cons_succ, List.cons_append, List.nil_append, List.append_nil, List.getElem?_cons_zero, List.getElem?_cons_succ, List.getElem?_nil, Nat.zero_add, Nat.reduceAdd, Nat.reduceSub]); rfl) (by (try simp only [setSel, upO, upA, upF, gIO, List.map_cons, List.map_nil, List.drop_succ_cons, List.drop_zero, List.drop_nil, List.length_cons, List.length_nil, List.set_cons_zero, List.set_cons_succ, List.cons_append, List.nil_append, List.append_nil, List.getElem?_cons_zero, List.getElem?_cons_succ, List.getElem?_nil, Nat.zero_add, Nat.reduceAdd, Nat.reduceSub]); rfl) ?_) | refine AL.nil ?_)) | with_reducible refine AW.at_region _ ?_ | (with_reducible (first | refine wk0 ?_ | refine wk2 ?_ | refine wk4 ?_ | refine wk7 ?_ | refine wk9 ?_ | refine wkb ?_ | refine wkc ?_)) | refine kcf rfl ?_)
      all_goals first | (exfalso; omega) | (exact Fin.q Try.results85 (.cons (.tmp rfl) .nil) [2])
theorem onAll_c (l : List DWait) (h : Int) (hl2 : okW l) : Cd Try.prog 85 [.ln (l.map tWt), i64 h] (.sl 0 0 (onK l h l.length).length) [.row 0 3 1 ((isort (tick l) (onK l h l.length)).map tI)] :=
  on_c l h hl2 fun k => sortStable_c _ _ _ _ _ k (by have := (onK_b l h l.length).1; have := hl2.1; omega) (on_cmp l _ fun z hz => (onK_b l h l.length).2 z hz) rfl (fun _ _ => .fnL .nil (.cons (.lpL (.cons (.ln _) .nil)) .nil))
end Go.Proofs.Ytphcebioiipdpaa


namespace Go.Proofs.Ytphcebioiipdpaa
set_option linter.unusedVariables false
set_option linter.unusedSimpArgs false
set_option linter.unnecessarySimpa false
open Go.RowKit
set_option maxHeartbeats 32000000
attribute [local irreducible] AL AW RG Fin C Cd Cio thenQ blockQ retQ
set_option maxRecDepth 100000
attribute [local simp] putW_len cutW_len
end Go.Proofs.Ytphcebioiipdpaa


namespace Go.Proofs.Ytphcebioiipdpaa
set_option linter.unusedVariables false
set_option linter.unusedSimpArgs false
set_option linter.unnecessarySimpa false
open Go.RowKit
set_option maxHeartbeats 32000000
attribute [local irreducible] AL AW RG Fin C Cd Cio thenQ blockQ retQ
set_option maxRecDepth 100000
theorem fir_ok {l : List DWait} {d h : Int} (hk : (fir l d h).ok = true) : ∃ (t m : Nat) (w : DWait) (c : DCase), (fir l d h).th = t ∧ (fir l d h).wh = m ∧ l[t]? = some w ∧ w.on = true ∧ w.cases[m]? = some c ∧ c.dir = d ∧ c.handle = h := by
  rcases firK_ok l d h l.length with ⟨h1, _⟩ | ⟨_, t, h1, h2, h3, h4, h5⟩
  · rw [show firK l d h l.length = fir l d h from rfl] at h1; rw [hk] at h1; cases h1
  · obtain ⟨w, hw⟩ : ∃ w, l[t]? = some w := ⟨_, List.getElem?_eq_getElem h2⟩
    rw [getD_of hw] at h3 h4
    rw [h4] at h5
    obtain ⟨c, hc, hp⟩ := ixF_get _ _ h5
    have hp := of_decide_eq_true hp
    exact ⟨t, (ixF (isC d h) w.cases).toNat, w, c, h1, by rw [show (fir l d h).wh = _ from h4]; omega, hw, h3, hc, hp.1, hp.2⟩
theorem fir_least {l : List DWait} {d h : Int} {q j : Nat} {a : DWait} {c : DCase} (ha : l[q]? = some a) (ho : a.on = true) (hc : a.cases[j]? = some c) (h1 : c.dir = d) (h2 : c.handle = h) : (fir l d h).ok = true ∧ (l.getD (fir l d h).th.toNat default).ticket ≤ a.ticket := by
  have := firK_least l d h l.length q (get_lt ha) (by rw [getD_of ha]; exact ho) (by rw [getD_of ha]; exact ixF_yes _ hc (decide_eq_true ⟨h1, h2⟩))
  rw [getD_of ha] at this
  exact this
end Go.Proofs.Ytphcebioiipdpaa

