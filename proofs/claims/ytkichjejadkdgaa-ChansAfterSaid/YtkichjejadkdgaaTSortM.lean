/- Stable sorts of rows (int): slices' merge in place. -/
import Derived.Test.YtkichjejadkdgaaTSort
namespace Go.Proofs.Ytkichjejadkdgaa
set_option linter.unusedVariables false
set_option linter.unusedSimpArgs false
set_option linter.unnecessarySimpa false
open Go.RowKit
set_option maxHeartbeats 32000000
attribute [local irreducible] AL AW RG Fin C Cd Cio thenQ blockQ retQ
set_option maxRecDepth 100000
/-! the merge in place -/
section
variable (f : FuncId) (fi cap : List AV) (key : Int → Int) (hup : upB (keepG 1) (.fn (.func f) fi cap) = .fn (.func f) fi cap) (hps : ∀ heap sel, Pass heap sel (.fn (.func f) fi cap) (.fn (.func f) fi cap)) (k : Nat)
include hup in
set_option maxHeartbeats 16000000 in
theorem merge1_c (l : List Int) (a m b : Nat) (ham : m = a + 1) (hmb : m < b) (hb : b ≤ l.length) (hl : l.length ≤ 1152921504606846976) (hg : CmpV (.fn (.func f) fi cap) key l) (hs : srtd key (seg l m b)) :
    Cio Try.prog 172 [.sl 0 k l.length, i64 a, i64 m, i64 b, .fn (.func f) fi cap] [.row k 3 1 (l.map tI)] (.tup []) [.row k 3 1 ((srt key l a b).map tI)] := by
  have hlt : (l.map tI).length = l.length := List.length_map _
  obtain ⟨x, hx⟩ : ∃ x, l[a]? = some x := ⟨_, List.getElem?_eq_getElem (by omega)⟩
  have kx := kat_of (key := key) hx
  refine Cio.enter' Try.func172 rfl Try.ntmps172 rfl qM ?_
  repeat' (first | ((with_reducible refine kAL ?_); (first | refine A_mt rfl rfl rfl rfl ?_ | (refine kL 105 rfl ?_; (first | refine A_sub rfl rfl 3 3 _ _ rfl rfl rfl (by first | exact wi | rfl) ?_ | refine A_cmp rfl rfl (c := true) .eql 3 3 _ _ rfl rfl rfl (by exact congrArg some (decide_eq_true (by (try (dsimp only; fail_if_success done)); omega))) ?_)) | refine A_as rfl rfl rfl rfl ?_ | refine AL.nil ?_)) | (with_reducible (first | refine wk0 ?_ | refine wk1 ?_ | refine wk2 ?_)) | refine kct rfl ?_ | with_reducible refine AW.at_region _ ?_)
  all_goals first | (exfalso; omega) | skip
  refine AW.loopP (fun (z : Int × Int) => (m : Int) ≤ z.1 ∧ z.1 ≤ z.2 ∧ z.2 ≤ b ∧ ((m : Int) < z.1 → kat key l (z.1 - 1).toNat < kat key l a) ∧ (z.2 < b → kat key l a ≤ kat key l z.2.toNat)) (fun (z : Int × Int) => (pu (pu (pu (pu (pu (pu (pu (fun _ => .any) 0 (.sl 0 k l.length)) 1 (i64 a)) 2 (i64 m)) 3 (i64 b)) 4 (.fn (.func f) fi cap)) 10 (i64 z.1)) 11 (i64 z.2))) (fun (z : Int × Int) => [.row k 3 1 (l.map tI)]) (fun (z : Int × Int) => (z.2 - z.1).toNat) (((m : Int), (b : Int))) ?_ ?_ ?_
  · exact ⟨Int.le_refl _, by dsimp only; omega, Int.le_refl _, fun h => by dsimp only at h; omega, fun h => by dsimp only at h; omega⟩
  · exact Wk.cq 1
  · rintro ⟨i, j⟩ ⟨h1, h2, h3, h4, h5⟩
    dsimp only at h1 h2 h3 h4 h5 ⊢
    by_cases hij : i < j
    · obtain ⟨y, hy⟩ : ∃ y, l[((i + j) / 2).toNat]? = some y := ⟨_, List.getElem?_eq_getElem (by omega)⟩
      have ky := kat_of (key := key) hy
      obtain ⟨c, hc0, hcv⟩ := hg y (List.mem_of_getElem? hy) x (List.mem_of_getElem? hx)
      by_cases hk : key y < key x
      · have hcn := hc0.2 hk
        repeat' (first | ((with_reducible refine kAL ?_); (first | refine A_mt rfl rfl rfl rfl ?_ | (refine kL 105 rfl ?_; (first | refine A_cmp rfl rfl (c := true) .lss 3 3 _ _ rfl rfl rfl (by exact congrArg some (decide_eq_true (by (try (dsimp only; fail_if_success done)); omega))) ?_ | refine A_add rfl rfl 3 3 _ _ rfl rfl rfl (by exact wi) ?_)) | refine A_as rfl rfl rfl rfl ?_ | refine A_conv rfl rfl 3 156 _ rfl ud3 ud156 rfl (by exact wu) ?_ | (refine kL 5001 rfl ?_; refine A_shr rfl rfl 156 156 _ _ rfl rfl rfl (by decide) (fdiv_lit (m := 2) rfl (by decide)) ?_) | refine A_conv rfl rfl 156 3 _ rfl ud156 ud3 rfl (by exact wi) ?_ | refine AL.nil ?_)) | ((with_reducible refine kRG ?_); (first | (refine kR 0 rfl ?_; (first | refine R_mt rfl rfl rfl rfl ?_ | refine R_move rfl rfl _ (.inl rfl) (y := .sl _ _ _) rfl ?_ | refine R_move rfl rfl _ (.inl rfl) (y := .fn _ _ _) rfl ?_)) | (refine kR 1414 rfl ?_; refine R_idx_sl rfl rfl 44 _ _ rfl ud44 inf3 rfl rfl (by first | (simp <;> fail) | fail) rfl (by omega) _ (by first | with_reducible exact Int.toNat_natCast _ | exact rfl) (by omega) ?_) | refine R_load_rp rfl rfl 3 _ rfl ud3 rfl rfl rfl (by exact map_get (by assumption)) rfl ?_ | (refine kR 11 rfl ?_; (refine R_callv rfl rfl rfl rfl (hcv) (acc := _) rfl (fun h' hh => by ((repeat (first | exact .nil | refine .cons ?_ ?_ | exact .t _)); (first | done | fail))) rfl rfl ?_)) | refine R_cmp rfl rfl (c := true) .lss 3 3 _ _ rfl rfl rfl (by exact congrArg some (decide_eq_true (by (try (dsimp only; fail_if_success done)); omega))) ?_ | refine RG.nil ⟨by kernel_rfl, ?_⟩)) | (with_reducible (first | refine wk0 ?_ | refine wk1 ?_ | refine wk2 ?_ | refine wk5 ?_ | refine wkd ?_)) | refine kct rfl ?_ | with_reducible refine AW.at_region _ ?_ | refine AW.at_draw 5 mixed 2 [[], [], [], [1, 2], [1, 2, 3], [], [], [5, 6], [5, 6, 7], [0, 1, 2, 3, 4, 5, 6, 7, 8], [0, 1, 2, 3, 4, 5, 6, 7, 8, 9]] qR ?_)
        all_goals first | (exfalso; omega) | skip
        refine ⟨((i + j) / 2 + 1, j), ⟨by dsimp only; omega, by dsimp only; omega, h3, fun _ => ?_, h5⟩, by dsimp only; omega, ?_⟩
        · dsimp only; rw [Int.add_sub_cancel, ky, kx]; exact hk
        · exact Wk.cq 1
      · have hcn : ¬ c < 0 := fun h => hk (hc0.1 h)
        repeat' (first | ((with_reducible refine kAL ?_); (first | refine A_mt rfl rfl rfl rfl ?_ | (refine kL 105 rfl ?_; (first | refine A_cmp rfl rfl (c := true) .lss 3 3 _ _ rfl rfl rfl (by exact congrArg some (decide_eq_true (by (try (dsimp only; fail_if_success done)); omega))) ?_ | refine A_add rfl rfl 3 3 _ _ rfl rfl rfl (by exact wi) ?_)) | refine A_as rfl rfl rfl rfl ?_ | refine A_conv rfl rfl 3 156 _ rfl ud3 ud156 rfl (by exact wu) ?_ | (refine kL 5001 rfl ?_; refine A_shr rfl rfl 156 156 _ _ rfl rfl rfl (by decide) (fdiv_lit (m := 2) rfl (by decide)) ?_) | refine A_conv rfl rfl 156 3 _ rfl ud156 ud3 rfl (by exact wi) ?_ | refine AL.nil ?_)) | ((with_reducible refine kRG ?_); (first | (refine kR 0 rfl ?_; (first | refine R_mt rfl rfl rfl rfl ?_ | refine R_move rfl rfl _ (.inl rfl) (y := .sl _ _ _) rfl ?_ | refine R_move rfl rfl _ (.inl rfl) (y := .fn _ _ _) rfl ?_)) | (refine kR 1414 rfl ?_; refine R_idx_sl rfl rfl 44 _ _ rfl ud44 inf3 rfl rfl (by first | (simp <;> fail) | fail) rfl (by omega) _ (by first | with_reducible exact Int.toNat_natCast _ | exact rfl) (by omega) ?_) | refine R_load_rp rfl rfl 3 _ rfl ud3 rfl rfl rfl (by exact map_get (by assumption)) rfl ?_ | (refine kR 11 rfl ?_; (refine R_callv rfl rfl rfl rfl (hcv) (acc := _) rfl (fun h' hh => by ((repeat (first | exact .nil | refine .cons ?_ ?_ | exact .t _)); (first | done | fail))) rfl rfl ?_)) | refine R_cmp rfl rfl (c := false) .lss 3 3 _ _ rfl rfl rfl (by exact congrArg some (decide_eq_false (by (try (dsimp only; fail_if_success done)); omega))) ?_ | refine RG.nil ⟨by kernel_rfl, ?_⟩)) | (with_reducible (first | refine wk0 ?_ | refine wk1 ?_ | refine wk2 ?_ | refine wk5 ?_ | refine wkd ?_)) | refine kct rfl ?_ | refine kcf rfl ?_ | with_reducible refine AW.at_region _ ?_ | refine AW.at_draw 5 mixed 2 [[], [], [], [1, 2], [1, 2, 3], [], [], [5, 6], [5, 6, 7], [0, 1, 2, 3, 4, 5, 6, 7, 8], [0, 1, 2, 3, 4, 5, 6, 7, 8, 9]] qR ?_)
        all_goals first | (exfalso; omega) | skip
        refine ⟨(i, (i + j) / 2), ⟨h1, by dsimp only; omega, by dsimp only; omega, h4, fun _ => ?_⟩, by dsimp only; omega, ?_⟩
        · dsimp only; rw [ky, kx]; omega
        · exact Wk.cq 1
    · obtain rfl : i = j := by omega
      obtain ⟨i, rfl⟩ : ∃ n : Nat, i = n := ⟨i.toNat, by omega⟩
      have hres : bub l a (i - (a + 1)) = srt key l a b := merge_one (by omega) (by omega) hb (by rw [← ham]; exact hs) (fun h => by have := h4 (by omega); rwa [show ((i : Int) - 1).toNat = i - 1 by omega] at this) (fun h => by have := h5 (by omega); rwa [Int.toNat_natCast] at this)
      repeat' (first | ((with_reducible refine kAL ?_); (first | refine A_mt rfl rfl rfl rfl ?_ | refine A_cmp rfl rfl (c := false) .lss 3 3 _ _ rfl rfl rfl (by exact congrArg some (decide_eq_false (by (try (dsimp only; fail_if_success done)); omega))) ?_ | refine A_as rfl rfl rfl rfl ?_ | refine AL.nil ?_)) | (with_reducible (first | refine wk0 ?_ | refine wk1 ?_ | refine wk2 ?_ | refine wk4 ?_ | refine wk7 ?_ | refine wkc ?_)) | refine kcf rfl ?_ | with_reducible refine AW.at_region _ ?_)
      all_goals first | (exfalso; omega) | skip
      refine AW.loopP (fun (z : Nat × List Int) => z.1 + 1 ≤ i ∧ z.2.length = l.length ∧ bub z.2 z.1 (i - (z.1 + 1)) = srt key l a b) (fun (z : Nat × List Int) => (pu (pu (pu (pu (fun _ => .any) 0 (.sl 0 k l.length)) 4 (.fn (.func f) fi cap)) 10 (i64 i)) 13 (i64 z.1))) (fun (z : Nat × List Int) => [.row k 3 1 (z.2.map tI)]) (fun (z : Nat × List Int) => i - z.1) ((a, l)) ?_ ?_ ?_
      · exact ⟨by dsimp only; omega, rfl, hres⟩
      · exact Wk.cq 1
      · rintro ⟨q, M⟩ ⟨g1, g2, g3⟩
        dsimp only at g1 g2 g3 ⊢
        have hMt : (M.map tI).length = l.length := by rw [List.length_map, g2]
        by_cases hq : q + 1 < i
        · have e1 : ((q : Int) + 1).toNat = q + 1 := by omega
          obtain ⟨x, hx⟩ : ∃ x, M[q]? = some x := ⟨_, List.getElem?_eq_getElem (by omega)⟩
          obtain ⟨y, hy⟩ : ∃ y, M[((q : Int) + 1).toNat]? = some y := ⟨_, List.getElem?_eq_getElem (by omega)⟩
          have hy2 : (M.set q y)[((q : Int) + 1).toNat]? = some y := by rw [List.getElem?_set_ne (by omega), hy]
          have hsw := swp_of hx hy
          rw [show i - (q + 1) = (i - (q + 1 + 1)) + 1 by omega, bub, show swp M q (q + 1) = swp M q ((q : Int) + 1).toNat by rw [e1], ← hsw] at g3
          skip
          repeat' (first | ((with_reducible refine kAL ?_); (first | refine A_mt rfl rfl rfl rfl ?_ | (refine kL 105 rfl ?_; (first | refine A_sub rfl rfl 3 3 _ _ rfl rfl rfl (by first | exact wi | rfl) ?_ | refine A_cmp rfl rfl (c := true) .lss 3 3 _ _ rfl rfl rfl (by exact congrArg some (decide_eq_true (by (try (dsimp only; fail_if_success done)); omega))) ?_ | refine A_add rfl rfl 3 3 _ _ rfl rfl rfl (by exact wi) ?_)) | refine A_as rfl rfl rfl rfl ?_ | refine AL.nil ?_)) | ((with_reducible refine kRG ?_); (first | (refine kR 0 rfl ?_; (first | refine R_mt rfl rfl rfl rfl ?_ | refine R_move rfl rfl _ (.inl rfl) (y := .sl _ _ _) rfl ?_)) | (refine kR 1414 rfl ?_; refine R_idx_sl rfl rfl 44 _ _ rfl ud44 inf3 rfl rfl (by (simp; omega)) rfl (by omega) _ (by first | with_reducible exact Int.toNat_natCast _ | exact rfl) (by omega) ?_) | refine R_load_rp rfl rfl 3 _ rfl ud3 rfl rfl rfl (by exact map_get (by assumption)) rfl ?_ | refine R_add rfl rfl 3 3 _ _ rfl rfl rfl (by exact wi) ?_ | (refine kR 99 rfl ?_; refine R_store_rp rfl rfl 3 _ _ rfl inf3 (by decide) rfl rfl (by exact map_get (by assumption)) rfl rfl rfl (Nat.le_of_ble_eq_true rfl) (by exact map_set (f := tI) (x := _)) qN ?_) | refine RG.nil ⟨by kernel_rfl, ?_⟩)) | (with_reducible (first | refine wk0 ?_ | refine wk1 ?_ | refine wk2 ?_ | refine wk5 ?_ | refine wkd ?_)) | refine kct rfl ?_ | with_reducible refine AW.at_region _ ?_ | refine AW.at_draw 11 mixed 0 [[], [], [], [], [3], [], [], [6], [5, 6, 7], [5, 6, 7, 8], [], [], [10, 11], [10, 11, 12], [0, 1, 5, 6, 7, 8, 9, 10, 11, 12, 13], [0, 1, 5, 6, 7, 8, 9, 10, 11, 12, 13, 14], [0, 1, 2, 3, 4, 5, 6, 7, 8, 9, 10, 11, 12, 13, 14, 15], [0, 1, 2, 3, 4, 5, 6, 7, 8, 9, 10, 11, 12, 13, 14, 15, 16]] qR ?_)
          all_goals first | (exfalso; omega) | skip
          refine ⟨(q + 1, (M.set q y).set ((q : Int) + 1).toNat x), ⟨by dsimp only; omega, by simp [g2], g3⟩, by dsimp only; omega, ?_⟩
          exact Wk.cq 1
        · rw [show i - (q + 1) = 0 by omega, bub] at g3
          subst g3
          repeat' (first | ((with_reducible refine kAL ?_); (first | refine A_mt rfl rfl rfl rfl ?_ | (refine kL 105 rfl ?_; (first | refine A_sub rfl rfl 3 3 _ _ rfl rfl rfl (by first | exact wi | rfl) ?_ | refine A_cmp rfl rfl (c := false) .lss 3 3 _ _ rfl rfl rfl (by exact congrArg some (decide_eq_false (by (try (dsimp only; fail_if_success done)); omega))) ?_)) | refine AL.nil ?_)) | (with_reducible (first | refine wk0 ?_ | refine wk2 ?_ | refine wk3 ?_ | refine wk4 ?_ | refine wk7 ?_ | refine wk9 ?_ | refine wkb ?_ | refine wkc ?_)) | refine kcf rfl ?_ | with_reducible refine AW.at_region _ ?_)
          all_goals first | (exfalso; omega) | (exact Fin.q Try.results172 .nil [])
include hup in
set_option maxHeartbeats 16000000 in
theorem merge2_c (l : List Int) (a m b : Nat) (ham : a + 1 < m) (hmb : b = m + 1) (hb : b ≤ l.length) (hl : l.length ≤ 1152921504606846976) (hg : CmpV (.fn (.func f) fi cap) key l) (hs : srtd key (seg l a m)) :
    Cio Try.prog 172 [.sl 0 k l.length, i64 a, i64 m, i64 b, .fn (.func f) fi cap] [.row k 3 1 (l.map tI)] (.tup []) [.row k 3 1 ((srt key l a b).map tI)] := by
  have hlt : (l.map tI).length = l.length := List.length_map _
  obtain ⟨x, hx⟩ : ∃ x, l[m]? = some x := ⟨_, List.getElem?_eq_getElem (by omega)⟩
  have kx := kat_of (key := key) hx
  refine Cio.enter' Try.func172 rfl Try.ntmps172 rfl qM ?_
  repeat' (first | ((with_reducible refine kAL ?_); (first | refine A_mt rfl rfl rfl rfl ?_ | (refine kL 105 rfl ?_; (first | refine A_sub rfl rfl 3 3 _ _ rfl rfl rfl (by first | exact wi | rfl) ?_ | (first | refine A_cmp rfl rfl (c := true) .eql 3 3 _ _ rfl rfl rfl (by exact congrArg some (decide_eq_true (by (try (dsimp only; fail_if_success done)); omega))) ?_ | refine A_cmp rfl rfl (c := false) .eql 3 3 _ _ rfl rfl rfl (by exact congrArg some (decide_eq_false (by (try (dsimp only; fail_if_success done)); omega))) ?_))) | refine A_as rfl rfl rfl rfl ?_ | refine AL.nil ?_)) | (with_reducible (first | refine wk0 ?_ | refine wk1 ?_ | refine wk2 ?_ | refine wkd ?_)) | refine kct rfl ?_ | refine kcf rfl ?_ | with_reducible refine AW.at_region _ ?_)
  all_goals first | (exfalso; omega) | skip
  refine AW.loopP (fun (z : Int × Int) => (a : Int) ≤ z.1 ∧ z.1 ≤ z.2 ∧ z.2 ≤ m ∧ ((a : Int) < z.1 → kat key l (z.1 - 1).toNat ≤ kat key l m) ∧ (z.2 < m → kat key l m < kat key l z.2.toNat)) (fun (z : Int × Int) => (pu (pu (pu (pu (pu (pu (pu (fun _ => .any) 0 (.sl 0 k l.length)) 1 (i64 a)) 2 (i64 m)) 3 (i64 b)) 4 (.fn (.func f) fi cap)) 14 (i64 z.1)) 15 (i64 z.2))) (fun (z : Int × Int) => [.row k 3 1 (l.map tI)]) (fun (z : Int × Int) => (z.2 - z.1).toNat) (((a : Int), (m : Int))) ?_ ?_ ?_
  · exact ⟨Int.le_refl _, by dsimp only; omega, Int.le_refl _, fun h => by dsimp only at h; omega, fun h => by dsimp only at h; omega⟩
  · exact Wk.cq 1
  · rintro ⟨i, j⟩ ⟨h1, h2, h3, h4, h5⟩
    dsimp only at h1 h2 h3 h4 h5 ⊢
    by_cases hij : i < j
    · obtain ⟨y, hy⟩ : ∃ y, l[((i + j) / 2).toNat]? = some y := ⟨_, List.getElem?_eq_getElem (by omega)⟩
      have ky := kat_of (key := key) hy
      obtain ⟨c, hc0, hcv⟩ := hg x (List.mem_of_getElem? hx) y (List.mem_of_getElem? hy)
      by_cases hk : key x < key y
      · have hcn := hc0.2 hk
        repeat' (first | ((with_reducible refine kAL ?_); (first | refine A_mt rfl rfl rfl rfl ?_ | (refine kL 105 rfl ?_; (first | refine A_cmp rfl rfl (c := true) .lss 3 3 _ _ rfl rfl rfl (by exact congrArg some (decide_eq_true (by (try (dsimp only; fail_if_success done)); omega))) ?_ | refine A_add rfl rfl 3 3 _ _ rfl rfl rfl (by exact wi) ?_)) | refine A_as rfl rfl rfl rfl ?_ | refine A_conv rfl rfl 3 156 _ rfl ud3 ud156 rfl (by exact wu) ?_ | (refine kL 5001 rfl ?_; refine A_shr rfl rfl 156 156 _ _ rfl rfl rfl (by decide) (fdiv_lit (m := 2) rfl (by decide)) ?_) | refine A_conv rfl rfl 156 3 _ rfl ud156 ud3 rfl (by exact wi) ?_ | refine AL.nil ?_)) | ((with_reducible refine kRG ?_); (first | (refine kR 0 rfl ?_; (first | refine R_mt rfl rfl rfl rfl ?_ | refine R_move rfl rfl _ (.inl rfl) (y := .sl _ _ _) rfl ?_ | refine R_move rfl rfl _ (.inl rfl) (y := .fn _ _ _) rfl ?_)) | (refine kR 1414 rfl ?_; refine R_idx_sl rfl rfl 44 _ _ rfl ud44 inf3 rfl rfl (by first | (simp <;> fail) | fail) rfl (by omega) _ (by first | with_reducible exact Int.toNat_natCast _ | exact rfl) (by omega) ?_) | refine R_load_rp rfl rfl 3 _ rfl ud3 rfl rfl rfl (by exact map_get (by assumption)) rfl ?_ | refine R_cmp rfl rfl (c := true) .lss 3 3 _ _ rfl rfl rfl (by exact congrArg some (decide_eq_true (by (try (dsimp only; fail_if_success done)); omega))) ?_ | (refine kR 11 rfl ?_; (refine R_callv rfl rfl rfl rfl (hcv) (acc := _) rfl (fun h' hh => by ((repeat (first | exact .nil | refine .cons ?_ ?_ | exact .t _)); (first | done | fail))) rfl rfl ?_)) | refine R_not rfl rfl _ _ rfl rfl ?_ | refine RG.nil ⟨by kernel_rfl, ?_⟩)) | (with_reducible (first | refine wk0 ?_ | refine wk1 ?_ | refine wk2 ?_ | refine wk5 ?_ | refine wkd ?_)) | refine kct rfl ?_ | refine kcf rfl ?_ | with_reducible refine AW.at_region _ ?_ | refine AW.at_draw 17 mixed 2 [[], [], [], [1, 2], [1, 2, 3], [], [], [5, 6], [5, 6, 7], [0, 1, 2, 3, 4, 5, 6, 7, 8], [0, 1, 2, 3, 4, 5, 6, 7, 8, 9], [0, 1, 2, 3, 4, 5, 6, 7, 8, 9, 10]] qR ?_)
        all_goals first | (exfalso; omega) | skip
        refine ⟨(i, (i + j) / 2), ⟨h1, by dsimp only; omega, by dsimp only; omega, h4, fun _ => ?_⟩, by dsimp only; omega, ?_⟩
        · dsimp only; rw [ky, kx]; exact hk
        · exact Wk.cq 1
      · have hcn : ¬ c < 0 := fun h => hk (hc0.1 h)
        repeat' (first | ((with_reducible refine kAL ?_); (first | refine A_mt rfl rfl rfl rfl ?_ | (refine kL 105 rfl ?_; (first | refine A_cmp rfl rfl (c := true) .lss 3 3 _ _ rfl rfl rfl (by exact congrArg some (decide_eq_true (by (try (dsimp only; fail_if_success done)); omega))) ?_ | refine A_add rfl rfl 3 3 _ _ rfl rfl rfl (by exact wi) ?_)) | refine A_as rfl rfl rfl rfl ?_ | refine A_conv rfl rfl 3 156 _ rfl ud3 ud156 rfl (by exact wu) ?_ | (refine kL 5001 rfl ?_; refine A_shr rfl rfl 156 156 _ _ rfl rfl rfl (by decide) (fdiv_lit (m := 2) rfl (by decide)) ?_) | refine A_conv rfl rfl 156 3 _ rfl ud156 ud3 rfl (by exact wi) ?_ | refine AL.nil ?_)) | ((with_reducible refine kRG ?_); (first | (refine kR 0 rfl ?_; (first | refine R_mt rfl rfl rfl rfl ?_ | refine R_move rfl rfl _ (.inl rfl) (y := .sl _ _ _) rfl ?_ | refine R_move rfl rfl _ (.inl rfl) (y := .fn _ _ _) rfl ?_)) | (refine kR 1414 rfl ?_; refine R_idx_sl rfl rfl 44 _ _ rfl ud44 inf3 rfl rfl (by first | (simp <;> fail) | fail) rfl (by omega) _ (by first | with_reducible exact Int.toNat_natCast _ | exact rfl) (by omega) ?_) | refine R_load_rp rfl rfl 3 _ rfl ud3 rfl rfl rfl (by exact map_get (by assumption)) rfl ?_ | refine R_cmp rfl rfl (c := false) .lss 3 3 _ _ rfl rfl rfl (by exact congrArg some (decide_eq_false (by (try (dsimp only; fail_if_success done)); omega))) ?_ | (refine kR 11 rfl ?_; (refine R_callv rfl rfl rfl rfl (hcv) (acc := _) rfl (fun h' hh => by ((repeat (first | exact .nil | refine .cons ?_ ?_ | exact .t _)); (first | done | fail))) rfl rfl ?_)) | refine R_not rfl rfl _ _ rfl rfl ?_ | refine RG.nil ⟨by kernel_rfl, ?_⟩)) | (with_reducible (first | refine wk0 ?_ | refine wk1 ?_ | refine wk2 ?_ | refine wk5 ?_ | refine wkd ?_)) | refine kct rfl ?_ | with_reducible refine AW.at_region _ ?_ | refine AW.at_draw 17 mixed 2 [[], [], [], [1, 2], [1, 2, 3], [], [], [5, 6], [5, 6, 7], [0, 1, 2, 3, 4, 5, 6, 7, 8], [0, 1, 2, 3, 4, 5, 6, 7, 8, 9], [0, 1, 2, 3, 4, 5, 6, 7, 8, 9, 10]] qR ?_)
        all_goals first | (exfalso; omega) | skip
        refine ⟨((i + j) / 2 + 1, j), ⟨by dsimp only; omega, by dsimp only; omega, h3, fun _ => ?_, h5⟩, by dsimp only; omega, ?_⟩
        · dsimp only; rw [Int.add_sub_cancel, ky, kx]; omega
        · exact Wk.cq 1
    · obtain rfl : i = j := by omega
      obtain ⟨i, rfl⟩ : ∃ n : Nat, i = n := ⟨i.toNat, by omega⟩
      have hres : bubd l m (m - i) = srt key l a b := by
        rw [hmb]
        exact merge_last (by omega) (by omega) (by omega) hs (fun h => by have := h4 (by omega); rwa [show ((i : Int) - 1).toNat = i - 1 by omega] at this) (fun h => by have := h5 (by omega); rwa [Int.toNat_natCast] at this)
      repeat' (first | ((with_reducible refine kAL ?_); (first | refine A_mt rfl rfl rfl rfl ?_ | refine A_cmp rfl rfl (c := false) .lss 3 3 _ _ rfl rfl rfl (by exact congrArg some (decide_eq_false (by (try (dsimp only; fail_if_success done)); omega))) ?_ | refine A_as rfl rfl rfl rfl ?_ | refine AL.nil ?_)) | (with_reducible (first | refine wk0 ?_ | refine wk1 ?_ | refine wk2 ?_ | refine wk4 ?_ | refine wk7 ?_ | refine wkc ?_)) | refine kcf rfl ?_ | with_reducible refine AW.at_region _ ?_)
      all_goals first | (exfalso; omega) | skip
      refine AW.loopP (fun (z : Int × List Int) => (i : Int) ≤ z.1 ∧ z.1 ≤ m ∧ z.2.length = l.length ∧ bubd z.2 z.1.toNat (z.1.toNat - i) = srt key l a b) (fun (z : Int × List Int) => (pu (pu (pu (pu (fun _ => .any) 0 (.sl 0 k l.length)) 4 (.fn (.func f) fi cap)) 14 (i64 i)) 17 (i64 z.1))) (fun (z : Int × List Int) => [.row k 3 1 (z.2.map tI)]) (fun (z : Int × List Int) => (z.1 - i).toNat) (((m : Int), l)) ?_ ?_ ?_
      · exact ⟨by dsimp only; omega, by dsimp only; omega, rfl, hres⟩
      · exact Wk.cq 1
      · rintro ⟨q, M⟩ ⟨g1, g0, g2, g3⟩
        dsimp only at g1 g0 g2 g3 ⊢
        have hMt : (M.map tI).length = l.length := by rw [List.length_map, g2]
        by_cases hq : (i : Int) < q
        · have e1 : (q - 1).toNat = q.toNat - 1 := by omega
          obtain ⟨x, hx⟩ : ∃ x, M[q.toNat]? = some x := ⟨_, List.getElem?_eq_getElem (by omega)⟩
          obtain ⟨y, hy⟩ : ∃ y, M[(q - 1).toNat]? = some y := ⟨_, List.getElem?_eq_getElem (by omega)⟩
          have hy2 : (M.set q.toNat y)[(q - 1).toNat]? = some y := by rw [List.getElem?_set_ne (by omega), hy]
          have hsw := swp_of hx hy
          rw [show q.toNat - i = ((q - 1).toNat - i) + 1 by omega, bubd, show swp M q.toNat (q.toNat - 1) = swp M q.toNat (q - 1).toNat by rw [e1], ← hsw, ← e1] at g3
          skip
          repeat' (first | ((with_reducible refine kAL ?_); (first | refine A_mt rfl rfl rfl rfl ?_ | (refine kL 105 rfl ?_; (first | refine A_sub rfl rfl 3 3 _ _ rfl rfl rfl (by first | exact wi | rfl) ?_ | refine A_cmp rfl rfl (c := true) .gtr 3 3 _ _ rfl rfl rfl (by exact congrArg some (decide_eq_true (by (try (dsimp only; fail_if_success done)); omega))) ?_)) | refine A_as rfl rfl rfl rfl ?_ | refine AL.nil ?_)) | ((with_reducible refine kRG ?_); (first | (refine kR 0 rfl ?_; (first | refine R_mt rfl rfl rfl rfl ?_ | refine R_move rfl rfl _ (.inl rfl) (y := .sl _ _ _) rfl ?_)) | (refine kR 1414 rfl ?_; refine R_idx_sl rfl rfl 44 _ _ rfl ud44 inf3 rfl rfl (by (simp; omega)) rfl (by omega) _ (by exact rfl) (by omega) ?_) | refine R_load_rp rfl rfl 3 _ rfl ud3 rfl rfl rfl (by exact map_get (by assumption)) rfl ?_ | refine R_sub rfl rfl 3 3 _ _ rfl rfl rfl (by exact wi) ?_ | (refine kR 99 rfl ?_; refine R_store_rp rfl rfl 3 _ _ rfl inf3 (by decide) rfl rfl (by exact map_get (by assumption)) rfl rfl rfl (Nat.le_of_ble_eq_true rfl) (by exact map_set (f := tI) (x := _)) qN ?_) | refine RG.nil ⟨by kernel_rfl, ?_⟩)) | (with_reducible (first | refine wk0 ?_ | refine wk1 ?_ | refine wk2 ?_ | refine wk5 ?_ | refine wkd ?_)) | refine kct rfl ?_ | with_reducible refine AW.at_region _ ?_ | refine AW.at_draw 23 mixed 0 [[], [], [], [], [3], [], [], [6], [5, 6, 7], [5, 6, 7, 8], [], [], [10, 11], [10, 11, 12], [0, 1, 5, 6, 7, 8, 9, 10, 11, 12, 13], [0, 1, 5, 6, 7, 8, 9, 10, 11, 12, 13, 14], [0, 1, 2, 3, 4, 5, 6, 7, 8, 9, 10, 11, 12, 13, 14, 15], [0, 1, 2, 3, 4, 5, 6, 7, 8, 9, 10, 11, 12, 13, 14, 15, 16]] qR ?_)
          all_goals first | (exfalso; omega) | skip
          refine ⟨(q - 1, (M.set q.toNat y).set (q - 1).toNat x), ⟨by dsimp only; omega, by dsimp only; omega, by simp [g2], g3⟩, by dsimp only; omega, ?_⟩
          exact Wk.cq 1
        · rw [show q.toNat - i = 0 by omega, bubd] at g3
          subst g3
          repeat' (first | ((with_reducible refine kAL ?_); (first | refine A_mt rfl rfl rfl rfl ?_ | refine A_cmp rfl rfl (c := false) .gtr 3 3 _ _ rfl rfl rfl (by exact congrArg some (decide_eq_false (by (try (dsimp only; fail_if_success done)); omega))) ?_ | refine AL.nil ?_)) | (with_reducible (first | refine wk0 ?_ | refine wk2 ?_ | refine wk3 ?_ | refine wk4 ?_ | refine wk7 ?_ | refine wk9 ?_ | refine wkb ?_ | refine wkc ?_)) | refine kcf rfl ?_ | with_reducible refine AW.at_region _ ?_)
          all_goals first | (exfalso; omega) | (exact Fin.q Try.results172 .nil [])
include hup hps in
set_option maxHeartbeats 32000000 in
theorem merge3_c (l : List Int) (a m b : Nat) (ham : a + 1 < m) (hmb : m + 1 < b) (hb : b ≤ l.length) (hl : l.length ≤ 1152921504606846976) (hg : CmpV (.fn (.func f) fi cap) key l) (hs1 : srtd key (seg l a m)) (hs2 : srtd key (seg l m b))
    (IH : ∀ (l : List Int) (a' m' b' : Nat), b' - a' < b - a → a' < m' → m' < b' → b' ≤ l.length → l.length ≤ 1152921504606846976 → CmpV (.fn (.func f) fi cap) key l → srtd key (seg l a' m') → srtd key (seg l m' b') → Cio Try.prog 172 [.sl 0 k l.length, i64 a', i64 m', i64 b', .fn (.func f) fi cap] [.row k 3 1 (l.map tI)] (.tup []) [.row k 3 1 ((srt key l a' b').map tI)]) :
    Cio Try.prog 172 [.sl 0 k l.length, i64 a, i64 m, i64 b, .fn (.func f) fi cap] [.row k 3 1 (l.map tI)] (.tup []) [.row k 3 1 ((srt key l a b).map tI)] := by
  have hlt : (l.map tI).length = l.length := List.length_map _
  obtain ⟨mid, emid⟩ : ∃ mid : Nat, ((a : Int) + (b : Int)) / 2 = mid := ⟨(a + b) / 2, by omega⟩
  refine Cio.enter' Try.func172 rfl Try.ntmps172 rfl qM ?_
  by_cases hmm : mid < m
  · obtain ⟨lo, elo⟩ : ∃ lo : Int, lo = (mid : Int) + m - b := ⟨_, rfl⟩
    obtain ⟨hi, ehi⟩ : ∃ hi : Int, hi = (mid : Int) := ⟨_, rfl⟩
    repeat' (first | ((with_reducible refine kAL ?_); (first | refine A_mt rfl rfl rfl rfl ?_ | (refine kL 105 rfl ?_; (first | refine A_sub rfl rfl 3 3 _ _ rfl rfl rfl (by first | exact wi | rfl) ?_ | refine A_cmp rfl rfl (c := false) .eql 3 3 _ _ rfl rfl rfl (by exact congrArg some (decide_eq_false (by (try (dsimp only; fail_if_success done)); omega))) ?_ | refine A_add rfl rfl 3 3 _ _ rfl rfl rfl (by first | exact wi | rfl) ?_ | refine A_cmp rfl rfl (c := true) .gtr 3 3 _ _ rfl rfl rfl (by exact congrArg some (decide_eq_true (by (try (dsimp only; fail_if_success done)); omega))) ?_)) | refine A_as rfl rfl rfl rfl ?_ | refine A_conv rfl rfl 3 156 _ rfl ud3 ud156 rfl (by exact wu) ?_ | (refine kL 5001 rfl ?_; refine A_shr rfl rfl 156 156 _ _ rfl rfl rfl (by decide) (fdiv_lit (m := 2) rfl (by decide)) ?_) | refine A_conv rfl rfl 156 3 _ rfl ud156 ud3 rfl (by exact wi) ?_ | refine AL.nil ?_)) | (with_reducible (first | refine wk0 ?_ | refine wk1 ?_ | refine wk2 ?_ | refine wkd ?_)) | refine kct rfl ?_ | refine kcf rfl ?_ | with_reducible refine AW.at_region _ ?_)
    all_goals first | (exfalso; omega) | skip
    rw [emid]
    refine AW.loopP (fun (z : Int × Int) => lo ≤ z.1 ∧ z.1 ≤ z.2 ∧ z.2 ≤ hi ∧ (lo < z.1 → kat key l (z.1 - 1).toNat ≤ kat key l ((mid : Int) + m - 1 - (z.1 - 1)).toNat) ∧ (z.2 < hi → kat key l ((mid : Int) + m - 1 - z.2).toNat < kat key l z.2.toNat)) (fun (z : Int × Int) => (pu (pu (pu (pu (pu (pu (pu (pu (pu (pu (fun _ => .any) 0 (.sl 0 k l.length)) 1 (i64 a)) 2 (i64 m)) 3 (i64 b)) 4 (.fn (.func f) fi cap)) 18 (i64 mid)) 19 (i64 ((mid : Int) + m))) 20 (i64 z.1)) 21 (i64 z.2)) 22 (i64 ((mid : Int) + m - 1)))) (fun (z : Int × Int) => [.row k 3 1 (l.map tI)]) (fun (z : Int × Int) => (z.2 - z.1).toNat) ((lo, hi)) ?_ ?_ ?_
    · exact ⟨Int.le_refl _, by dsimp only; omega, Int.le_refl _, fun h => by dsimp only at h; omega, fun h => by dsimp only at h; omega⟩
    · subst elo ehi; exact Wk.cq 1
    · rintro ⟨i, j⟩ ⟨h1, h2, h3, h4, h5⟩
      dsimp only at h1 h2 h3 h4 h5 ⊢
      by_cases hij : i < j
      · obtain ⟨y, hy⟩ : ∃ y, l[((i + j) / 2).toNat]? = some y := ⟨_, List.getElem?_eq_getElem (by omega)⟩
        obtain ⟨x, hx⟩ : ∃ x, l[((mid : Int) + m - 1 - (i + j) / 2).toNat]? = some x := ⟨_, List.getElem?_eq_getElem (by omega)⟩
        have ky := kat_of (key := key) hy
        have kx := kat_of (key := key) hx
        obtain ⟨c, hc0, hcv⟩ := hg x (List.mem_of_getElem? hx) y (List.mem_of_getElem? hy)
        by_cases hk : key x < key y
        · have hcn := hc0.2 hk
          repeat' (first | ((with_reducible refine kAL ?_); (first | refine A_mt rfl rfl rfl rfl ?_ | (refine kL 105 rfl ?_; (first | refine A_cmp rfl rfl (c := true) .lss 3 3 _ _ rfl rfl rfl (by exact congrArg some (decide_eq_true (by (try (dsimp only; fail_if_success done)); omega))) ?_ | refine A_add rfl rfl 3 3 _ _ rfl rfl rfl (by exact wi) ?_)) | refine A_as rfl rfl rfl rfl ?_ | refine A_conv rfl rfl 3 156 _ rfl ud3 ud156 rfl (by exact wu) ?_ | (refine kL 5001 rfl ?_; refine A_shr rfl rfl 156 156 _ _ rfl rfl rfl (by decide) (fdiv_lit (m := 2) rfl (by decide)) ?_) | refine A_conv rfl rfl 156 3 _ rfl ud156 ud3 rfl (by exact wi) ?_ | refine AL.nil ?_)) | ((with_reducible refine kRG ?_); (first | (refine kR 0 rfl ?_; (first | refine R_mt rfl rfl rfl rfl ?_ | refine R_move rfl rfl _ (.inl rfl) (y := .sl _ _ _) rfl ?_ | refine R_move rfl rfl _ (.inl rfl) (y := .fn _ _ _) rfl ?_)) | (refine kR 1414 rfl ?_; refine R_idx_sl rfl rfl 44 _ _ rfl ud44 inf3 rfl rfl (by first | (simp <;> fail) | fail) rfl (by omega) _ (by exact rfl) (by omega) ?_) | refine R_load_rp rfl rfl 3 _ rfl ud3 rfl rfl rfl (by exact map_get (by assumption)) rfl ?_ | (refine kR 105 rfl ?_; (first | refine R_cmp rfl rfl (c := true) .lss 3 3 _ _ rfl rfl rfl (by exact congrArg some (decide_eq_true (by (try (dsimp only; fail_if_success done)); omega))) ?_ | refine R_sub rfl rfl 3 3 _ _ rfl rfl rfl (by exact wi) ?_)) | refine R_not rfl rfl _ _ rfl rfl ?_ | (refine kR 11 rfl ?_; (refine R_callv rfl rfl rfl rfl (hcv) (acc := _) rfl (fun h' hh => by ((repeat (first | exact .nil | refine .cons ?_ ?_ | exact .t _)); (first | done | fail))) rfl rfl ?_)) | refine RG.nil ⟨by kernel_rfl, ?_⟩)) | (with_reducible (first | refine wk0 ?_ | refine wk1 ?_ | refine wk2 ?_ | refine wk5 ?_ | refine wkd ?_)) | refine kct rfl ?_ | refine kcf rfl ?_ | with_reducible refine AW.at_region _ ?_ | refine AW.at_draw 35 mixed 2 [[], [], [], [], [2, 3], [1, 2, 3, 4], [1, 2, 3, 4, 5], [], [], [7, 8], [7, 8, 9], [0, 1, 2, 3, 4, 5, 6, 7, 8, 9, 10], [0, 1, 2, 3, 4, 5, 6, 7, 8, 9, 10, 11], [0, 1, 2, 3, 4, 5, 6, 7, 8, 9, 10, 11, 12]] qR ?_)
          all_goals first | (exfalso; omega) | skip
          refine ⟨(i, (i + j) / 2), ⟨h1, by dsimp only; omega, by dsimp only; omega, h4, fun _ => ?_⟩, by dsimp only; omega, ?_⟩
          · dsimp only; rw [ky, kx]; exact hk
          · exact Wk.cq 1
        · have hcn : ¬ c < 0 := fun h => hk (hc0.1 h)
          repeat' (first | ((with_reducible refine kAL ?_); (first | refine A_mt rfl rfl rfl rfl ?_ | (refine kL 105 rfl ?_; (first | refine A_cmp rfl rfl (c := true) .lss 3 3 _ _ rfl rfl rfl (by exact congrArg some (decide_eq_true (by (try (dsimp only; fail_if_success done)); omega))) ?_ | refine A_add rfl rfl 3 3 _ _ rfl rfl rfl (by exact wi) ?_)) | refine A_as rfl rfl rfl rfl ?_ | refine A_conv rfl rfl 3 156 _ rfl ud3 ud156 rfl (by exact wu) ?_ | (refine kL 5001 rfl ?_; refine A_shr rfl rfl 156 156 _ _ rfl rfl rfl (by decide) (fdiv_lit (m := 2) rfl (by decide)) ?_) | refine A_conv rfl rfl 156 3 _ rfl ud156 ud3 rfl (by exact wi) ?_ | refine AL.nil ?_)) | ((with_reducible refine kRG ?_); (first | (refine kR 0 rfl ?_; (first | refine R_mt rfl rfl rfl rfl ?_ | refine R_move rfl rfl _ (.inl rfl) (y := .sl _ _ _) rfl ?_ | refine R_move rfl rfl _ (.inl rfl) (y := .fn _ _ _) rfl ?_)) | (refine kR 1414 rfl ?_; refine R_idx_sl rfl rfl 44 _ _ rfl ud44 inf3 rfl rfl (by first | (simp <;> fail) | fail) rfl (by omega) _ (by exact rfl) (by omega) ?_) | refine R_load_rp rfl rfl 3 _ rfl ud3 rfl rfl rfl (by exact map_get (by assumption)) rfl ?_ | (refine kR 105 rfl ?_; (first | refine R_cmp rfl rfl (c := false) .lss 3 3 _ _ rfl rfl rfl (by exact congrArg some (decide_eq_false (by (try (dsimp only; fail_if_success done)); omega))) ?_ | refine R_sub rfl rfl 3 3 _ _ rfl rfl rfl (by exact wi) ?_)) | refine R_not rfl rfl _ _ rfl rfl ?_ | (refine kR 11 rfl ?_; (refine R_callv rfl rfl rfl rfl (hcv) (acc := _) rfl (fun h' hh => by ((repeat (first | exact .nil | refine .cons ?_ ?_ | exact .t _)); (first | done | fail))) rfl rfl ?_)) | refine RG.nil ⟨by kernel_rfl, ?_⟩)) | (with_reducible (first | refine wk0 ?_ | refine wk1 ?_ | refine wk2 ?_ | refine wk5 ?_ | refine wkd ?_)) | refine kct rfl ?_ | with_reducible refine AW.at_region _ ?_ | refine AW.at_draw 35 mixed 2 [[], [], [], [], [2, 3], [1, 2, 3, 4], [1, 2, 3, 4, 5], [], [], [7, 8], [7, 8, 9], [0, 1, 2, 3, 4, 5, 6, 7, 8, 9, 10], [0, 1, 2, 3, 4, 5, 6, 7, 8, 9, 10, 11], [0, 1, 2, 3, 4, 5, 6, 7, 8, 9, 10, 11, 12]] qR ?_)
          all_goals first | (exfalso; omega) | skip
          refine ⟨((i + j) / 2 + 1, j), ⟨by dsimp only; omega, by dsimp only; omega, h3, fun _ => ?_, h5⟩, by dsimp only; omega, ?_⟩
          · dsimp only; rw [Int.add_sub_cancel, ky, kx]; omega
          · exact Wk.cq 1
      · obtain rfl : i = j := by omega
        obtain ⟨st, rfl⟩ : ∃ n : Nat, i = n := ⟨i.toNat, by omega⟩
        obtain ⟨en, een⟩ : ∃ en : Nat, (mid : Int) + m - st = en := ⟨((mid : Int) + m - st).toNat, by omega⟩
        have q1 : a ≤ st := by omega
        have q2 : st ≤ m := by omega
        have q3 : m ≤ en := by omega
        have q4 : en ≤ b := by omega
        have q5 : st ≤ mid := by omega
        obtain ⟨s1, s2, s3, s4, s5⟩ := merge_mid (mid := mid) q1 q2 q3 q4 hb (by omega) hs1 hs2 (fun g1 g2 => by
          have := h4 (by omega)
          rwa [show ((st : Int) - 1).toNat = st - 1 by omega, show ((mid : Int) + m - 1 - ((st : Int) - 1)).toNat = en by omega] at this) (fun g1 g2 => by
          have := h5 (by omega)
          rwa [show ((mid : Int) + m - 1 - (st : Int)).toNat = en - 1 by omega, Int.toNat_natCast] at this)
        have n1 : ¬ (st < m ∧ m < en) → l = rot l st m en := fun h => (rot_same q2 q3 h).symm
        have n2 : ¬ (a < st ∧ st < mid) → rot l st m en = srt key (rot l st m en) a mid := fun h => by
          by_cases e : a = st
          · subst e; exact (srt_srtd (by omega) s2).symm
          · have e2 : st = mid := by omega
            subst e2; exact (srt_srtd q1 s1).symm
        have n3 : ¬ (mid < en ∧ en < b) → srt key (rot l st m en) a mid = srt key l a b := fun h => by
          rw [← s5]
          by_cases e : mid = en
          · subst e; exact (srt_srtd (by omega) s4).symm
          · have e2 : en = b := by omega
            subst e2; exact (srt_srtd (by omega) s3).symm
        have v1 : ∀ z ∈ rot l st m en, z ∈ l := fun z hz => rot_mem hz
        have v2 : ∀ z ∈ srt key (rot l st m en) a mid, z ∈ l := fun z hz => v1 z ((srt_mem (by omega)).1 hz)
        have w1 : (rot l st m en).length = l.length := rot_len q2 q3 (by omega)
        have w2 : (srt key (rot l st m en) a mid).length = l.length := by rw [srt_len (by omega) (by omega), w1]
        have cR : st < m ∧ m < en → _ := fun h => rotate_c f fi cap hup hps l k st m en h.1 h.2 (by omega) hl
        have c2 : a < st ∧ st < mid → _ := fun h => IH (rot l st m en) a st mid (by omega) h.1 h.2 (by omega) (by omega) (hg.mono v1) s1 s2
        have c3 : mid < en ∧ en < b → _ := fun h => IH (srt key (rot l st m en) a mid) mid en b (by omega) h.1 h.2 (by omega) (by omega) (hg.mono v2) s3 s4
        rw [s5] at c3
        rw [w1] at c2
        rw [w2] at c3
        clear s1 s2 s3 s4 s5 v1 v2 w1 w2 h4 h5 hs1 hs2 hg
        generalize srt key l a b = L3 at *
        generalize srt key (rot l st m en) a mid = L2 at *
        generalize rot l st m en = L1 at *
        rw [← een] at cR c3
        have t1 : (st < m ∧ m < en) ∨ (¬ (st < m ∧ m < en) ∧ l = L1) := (Classical.em _).imp id fun h => ⟨h, n1 h⟩
        have t2 : (a < st ∧ st < mid) ∨ (¬ (a < st ∧ st < mid) ∧ L1 = L2) := (Classical.em _).imp id fun h => ⟨h, n2 h⟩
        have t3 : (mid < en ∧ en < b) ∨ (¬ (mid < en ∧ en < b) ∧ L2 = L3) := (Classical.em _).imp id fun h => ⟨h, n3 h⟩
        clear n1 n2 n3
        rcases t1 with g1 | ⟨g1, rfl⟩ <;> rcases t2 with g2 | ⟨g2, rfl⟩ <;> rcases t3 with g3 | ⟨g3, rfl⟩
        all_goals
          repeat' (first | ((with_reducible refine kAL ?_); (first | (refine kL 0 rfl ?_; (first | refine A_mt rfl rfl rfl rfl ?_ | refine A_move rfl rfl _ (.inl rfl) (y := .sl _ _ _) rfl ?_ | refine A_move rfl rfl _ (.inl rfl) (y := .fn _ _ _) rfl ?_)) | (refine kL 105 rfl ?_; (first | refine A_sub rfl rfl 3 3 _ _ rfl rfl rfl (by first | exact wi | rfl) ?_ | (first | refine A_cmp rfl rfl (c := true) .lss 3 3 _ _ rfl rfl rfl (by exact congrArg some (decide_eq_true (by (try (dsimp only; fail_if_success done)); omega))) ?_ | refine A_cmp rfl rfl (c := false) .lss 3 3 _ _ rfl rfl rfl (by exact congrArg some (decide_eq_false (by (try (dsimp only; fail_if_success done)); omega))) ?_) | refine A_add rfl rfl 3 3 _ _ rfl rfl rfl (by first | exact wi | rfl) ?_)) | refine A_as rfl rfl rfl rfl ?_ | refine A_conv rfl rfl 3 156 _ rfl ud3 ud156 rfl (by exact wu) ?_ | (refine kL 5001 rfl ?_; refine A_shr rfl rfl 156 156 _ _ rfl rfl rfl (by decide) (fdiv_lit (m := 2) rfl (by decide)) ?_) | refine A_conv rfl rfl 156 3 _ rfl ud156 ud3 rfl (by exact wi) ?_ | refine A_pick rfl rfl _ _ _ rfl rfl rfl rfl rfl ?_ | (refine kL 5802 rfl ?_; (refine A_callio rfl rfl Try.func181 (by kernel_rfl) (by kernel_rfl) rfl [0] (by decide) (cR ?zq0) (by repeat (first | exact .nil | refine .cons rfl ?_ ?_ | exact .row)) (by ((repeat (first | exact .nil | exact .sel rfl | refine .cons ?_ ?_ | exact .t _ | exact hps _ _)); (first | done | fail))) qL (by (try simp only [setSel, upO, upA, upF, gIO, List.map_cons, List.map_nil, List.drop_succ_cons, List.drop_zero, List.drop_nil, List.length_cons, List.length_nil, List.set_cons_zero, List.set_cons_succ, List.cons_append, List.nil_append, List.append_nil, List.getElem?_cons_zero, List.getElem?_cons_succ, List.getElem?_nil, Nat.zero_add, Nat.reduceAdd, Nat.reduceSub]); rfl) (by (try simp only [setSel, upO, upA, upF, gIO, List.map_cons, List.map_nil, List.drop_succ_cons, List.drop_zero, List.drop_nil, List.length_cons, List.length_nil, List.set_cons_zero, List.set_cons_succ, List.cons_append, List.nil_append, List.append_nil, List.getElem?_cons_zero, List.getElem?_cons_succ, List.getElem?_nil, Nat.zero_add, Nat.reduceAdd, Nat.reduceSub]); rfl) ?_; (case zq0 => omega))) | (refine kL 5514 rfl ?_; (first | (refine A_callio rfl rfl Try.func172 (by kernel_rfl) (by kernel_rfl) rfl [0] (by decide) (c2 ?zq0) (by repeat (first | exact .nil | refine .cons rfl ?_ ?_ | exact .row)) (by ((repeat (first | exact .nil | exact .sel rfl | refine .cons ?_ ?_ | exact .t _ | exact hps _ _)); (first | done | fail))) qL (by (try simp only [setSel, upO, upA, upF, gIO, List.map_cons, List.map_nil, List.drop_succ_cons, List.drop_zero, List.drop_nil, List.length_cons, List.length_nil, List.set_cons_zero, List.set_cons_succ, List.cons_append, List.nil_append, List.append_nil, List.getElem?_cons_zero, List.getElem?_cons_succ, List.getElem?_nil, Nat.zero_add, Nat.reduceAdd, Nat.reduceSub]); rfl) (by (try simp only [setSel, upO, upA, upF, gIO, List.map_cons, List.map_nil, List.drop_succ_cons, List.drop_zero, List.drop_nil, List.length_cons, List.length_nil, List.set_cons_zero, List.set_cons_succ, List.cons_append, List.nil_append, List.append_nil, List.getElem?_cons_zero, List.getElem?_cons_succ, List.getElem?_nil, Nat.zero_add, Nat.reduceAdd, Nat.reduceSub]); rfl) ?_; (case zq0 => omega)) | (refine A_callio rfl rfl Try.func172 (by kernel_rfl) (by kernel_rfl) rfl [0] (by decide) (c3 ?zq0) (by repeat (first | exact .nil | refine .cons rfl ?_ ?_ | exact .row)) (by ((repeat (first | exact .nil | exact .sel rfl | refine .cons ?_ ?_ | exact .t _ | exact hps _ _)); (first | done | fail))) qL (by (try simp only [setSel, upO, upA, upF, gIO, List.map_cons, List.map_nil, List.drop_succ_cons, List.drop_zero, List.drop_nil, List.length_cons, List.length_nil, List.set_cons_zero, List.set_cons_succ, List.cons_append, List.nil_append, List.append_nil, List.getElem?_cons_zero, List.getElem?_cons_succ, List.getElem?_nil, Nat.zero_add, Nat.reduceAdd, Nat.reduceSub]); rfl) (by (try simp only [setSel, upO, upA, upF, gIO, List.map_cons, List.map_nil, List.drop_succ_cons, List.drop_zero, List.drop_nil, List.length_cons, List.length_nil, List.set_cons_zero, List.set_cons_succ, List.cons_append, List.nil_append, List.append_nil, List.getElem?_cons_zero, List.getElem?_cons_succ, List.getElem?_nil, Nat.zero_add, Nat.reduceAdd, Nat.reduceSub]); rfl) ?_; (case zq0 => omega)))) | refine AL.nil ?_ | refine AL.skip rfl rfl ?_)) | ((with_reducible refine kRG ?_); (first | (refine kR 0 rfl ?_; (first | refine R_mt rfl rfl rfl rfl ?_ | refine R_move rfl rfl _ (.inl rfl) (y := .sl _ _ _) rfl ?_ | refine R_move rfl rfl _ (.inl rfl) (y := .fn _ _ _) rfl ?_)) | (refine kR 1414 rfl ?_; refine R_idx_sl rfl rfl 44 _ _ rfl ud44 inf3 rfl rfl (by first | (simp <;> fail) | fail) rfl (by omega) _ (by exact rfl) (by omega) ?_) | refine R_sub rfl rfl 3 3 _ _ rfl rfl rfl (by exact wi) ?_)) | (with_reducible (first | refine wk0 ?_ | refine wk1 ?_ | refine wk2 ?_ | refine wk4 ?_ | refine wk7 ?_ | refine wka ?_ | refine wkc ?_ | refine wkd ?_)) | refine kct rfl ?_ | refine kcf rfl ?_ | with_reducible refine AW.at_region _ ?_ | refine AW.at_draw 35 mixed 2 [[], [], [], [], [2, 3], [1, 2, 3, 4], [1, 2, 3, 4, 5], [], [], [7, 8], [7, 8, 9], [0, 1, 2, 3, 4, 5, 6, 7, 8, 9, 10], [0, 1, 2, 3, 4, 5, 6, 7, 8, 9, 10, 11], [0, 1, 2, 3, 4, 5, 6, 7, 8, 9, 10, 11, 12]] qR ?_)
          all_goals first | (exfalso; omega) | (exact Fin.q Try.results172 .nil [])
  · obtain ⟨lo, elo⟩ : ∃ lo : Int, lo = (a : Int) := ⟨_, rfl⟩
    obtain ⟨hi, ehi⟩ : ∃ hi : Int, hi = (m : Int) := ⟨_, rfl⟩
    repeat' (first | ((with_reducible refine kAL ?_); (first | refine A_mt rfl rfl rfl rfl ?_ | (refine kL 105 rfl ?_; (first | refine A_sub rfl rfl 3 3 _ _ rfl rfl rfl (by first | exact wi | rfl) ?_ | refine A_cmp rfl rfl (c := false) .eql 3 3 _ _ rfl rfl rfl (by exact congrArg some (decide_eq_false (by (try (dsimp only; fail_if_success done)); omega))) ?_ | refine A_add rfl rfl 3 3 _ _ rfl rfl rfl (by first | exact wi | rfl) ?_ | refine A_cmp rfl rfl (c := false) .gtr 3 3 _ _ rfl rfl rfl (by exact congrArg some (decide_eq_false (by (try (dsimp only; fail_if_success done)); omega))) ?_)) | refine A_as rfl rfl rfl rfl ?_ | refine A_conv rfl rfl 3 156 _ rfl ud3 ud156 rfl (by exact wu) ?_ | (refine kL 5001 rfl ?_; refine A_shr rfl rfl 156 156 _ _ rfl rfl rfl (by decide) (fdiv_lit (m := 2) rfl (by decide)) ?_) | refine A_conv rfl rfl 156 3 _ rfl ud156 ud3 rfl (by exact wi) ?_ | refine AL.nil ?_)) | (with_reducible (first | refine wk0 ?_ | refine wk1 ?_ | refine wk2 ?_ | refine wkd ?_)) | refine kcf rfl ?_ | with_reducible refine AW.at_region _ ?_)
    all_goals first | (exfalso; omega) | skip
    rw [emid]
    refine AW.loopP (fun (z : Int × Int) => lo ≤ z.1 ∧ z.1 ≤ z.2 ∧ z.2 ≤ hi ∧ (lo < z.1 → kat key l (z.1 - 1).toNat ≤ kat key l ((mid : Int) + m - 1 - (z.1 - 1)).toNat) ∧ (z.2 < hi → kat key l ((mid : Int) + m - 1 - z.2).toNat < kat key l z.2.toNat)) (fun (z : Int × Int) => (pu (pu (pu (pu (pu (pu (pu (pu (pu (pu (fun _ => .any) 0 (.sl 0 k l.length)) 1 (i64 a)) 2 (i64 m)) 3 (i64 b)) 4 (.fn (.func f) fi cap)) 18 (i64 mid)) 19 (i64 ((mid : Int) + m))) 20 (i64 z.1)) 21 (i64 z.2)) 22 (i64 ((mid : Int) + m - 1)))) (fun (z : Int × Int) => [.row k 3 1 (l.map tI)]) (fun (z : Int × Int) => (z.2 - z.1).toNat) ((lo, hi)) ?_ ?_ ?_
    · exact ⟨Int.le_refl _, by dsimp only; omega, Int.le_refl _, fun h => by dsimp only at h; omega, fun h => by dsimp only at h; omega⟩
    · subst elo ehi; exact Wk.cq 1
    · rintro ⟨i, j⟩ ⟨h1, h2, h3, h4, h5⟩
      dsimp only at h1 h2 h3 h4 h5 ⊢
      by_cases hij : i < j
      · obtain ⟨y, hy⟩ : ∃ y, l[((i + j) / 2).toNat]? = some y := ⟨_, List.getElem?_eq_getElem (by omega)⟩
        obtain ⟨x, hx⟩ : ∃ x, l[((mid : Int) + m - 1 - (i + j) / 2).toNat]? = some x := ⟨_, List.getElem?_eq_getElem (by omega)⟩
        have ky := kat_of (key := key) hy
        have kx := kat_of (key := key) hx
        obtain ⟨c, hc0, hcv⟩ := hg x (List.mem_of_getElem? hx) y (List.mem_of_getElem? hy)
        by_cases hk : key x < key y
        · have hcn := hc0.2 hk
          repeat' (first | ((with_reducible refine kAL ?_); (first | refine A_mt rfl rfl rfl rfl ?_ | (refine kL 105 rfl ?_; (first | refine A_cmp rfl rfl (c := true) .lss 3 3 _ _ rfl rfl rfl (by exact congrArg some (decide_eq_true (by (try (dsimp only; fail_if_success done)); omega))) ?_ | refine A_add rfl rfl 3 3 _ _ rfl rfl rfl (by exact wi) ?_)) | refine A_as rfl rfl rfl rfl ?_ | refine A_conv rfl rfl 3 156 _ rfl ud3 ud156 rfl (by exact wu) ?_ | (refine kL 5001 rfl ?_; refine A_shr rfl rfl 156 156 _ _ rfl rfl rfl (by decide) (fdiv_lit (m := 2) rfl (by decide)) ?_) | refine A_conv rfl rfl 156 3 _ rfl ud156 ud3 rfl (by exact wi) ?_ | refine AL.nil ?_)) | ((with_reducible refine kRG ?_); (first | (refine kR 0 rfl ?_; (first | refine R_mt rfl rfl rfl rfl ?_ | refine R_move rfl rfl _ (.inl rfl) (y := .sl _ _ _) rfl ?_ | refine R_move rfl rfl _ (.inl rfl) (y := .fn _ _ _) rfl ?_)) | (refine kR 1414 rfl ?_; refine R_idx_sl rfl rfl 44 _ _ rfl ud44 inf3 rfl rfl (by first | (simp <;> fail) | fail) rfl (by omega) _ (by exact rfl) (by omega) ?_) | refine R_load_rp rfl rfl 3 _ rfl ud3 rfl rfl rfl (by exact map_get (by assumption)) rfl ?_ | (refine kR 105 rfl ?_; (first | refine R_cmp rfl rfl (c := true) .lss 3 3 _ _ rfl rfl rfl (by exact congrArg some (decide_eq_true (by (try (dsimp only; fail_if_success done)); omega))) ?_ | refine R_sub rfl rfl 3 3 _ _ rfl rfl rfl (by exact wi) ?_)) | refine R_not rfl rfl _ _ rfl rfl ?_ | (refine kR 11 rfl ?_; (refine R_callv rfl rfl rfl rfl (hcv) (acc := _) rfl (fun h' hh => by ((repeat (first | exact .nil | refine .cons ?_ ?_ | exact .t _)); (first | done | fail))) rfl rfl ?_)) | refine RG.nil ⟨by kernel_rfl, ?_⟩)) | (with_reducible (first | refine wk0 ?_ | refine wk1 ?_ | refine wk2 ?_ | refine wk5 ?_ | refine wkd ?_)) | refine kct rfl ?_ | refine kcf rfl ?_ | with_reducible refine AW.at_region _ ?_ | refine AW.at_draw 35 mixed 2 [[], [], [], [], [2, 3], [1, 2, 3, 4], [1, 2, 3, 4, 5], [], [], [7, 8], [7, 8, 9], [0, 1, 2, 3, 4, 5, 6, 7, 8, 9, 10], [0, 1, 2, 3, 4, 5, 6, 7, 8, 9, 10, 11], [0, 1, 2, 3, 4, 5, 6, 7, 8, 9, 10, 11, 12]] qR ?_)
          all_goals first | (exfalso; omega) | skip
          refine ⟨(i, (i + j) / 2), ⟨h1, by dsimp only; omega, by dsimp only; omega, h4, fun _ => ?_⟩, by dsimp only; omega, ?_⟩
          · dsimp only; rw [ky, kx]; exact hk
          · exact Wk.cq 1
        · have hcn : ¬ c < 0 := fun h => hk (hc0.1 h)
          repeat' (first | ((with_reducible refine kAL ?_); (first | refine A_mt rfl rfl rfl rfl ?_ | (refine kL 105 rfl ?_; (first | refine A_cmp rfl rfl (c := true) .lss 3 3 _ _ rfl rfl rfl (by exact congrArg some (decide_eq_true (by (try (dsimp only; fail_if_success done)); omega))) ?_ | refine A_add rfl rfl 3 3 _ _ rfl rfl rfl (by exact wi) ?_)) | refine A_as rfl rfl rfl rfl ?_ | refine A_conv rfl rfl 3 156 _ rfl ud3 ud156 rfl (by exact wu) ?_ | (refine kL 5001 rfl ?_; refine A_shr rfl rfl 156 156 _ _ rfl rfl rfl (by decide) (fdiv_lit (m := 2) rfl (by decide)) ?_) | refine A_conv rfl rfl 156 3 _ rfl ud156 ud3 rfl (by exact wi) ?_ | refine AL.nil ?_)) | ((with_reducible refine kRG ?_); (first | (refine kR 0 rfl ?_; (first | refine R_mt rfl rfl rfl rfl ?_ | refine R_move rfl rfl _ (.inl rfl) (y := .sl _ _ _) rfl ?_ | refine R_move rfl rfl _ (.inl rfl) (y := .fn _ _ _) rfl ?_)) | (refine kR 1414 rfl ?_; refine R_idx_sl rfl rfl 44 _ _ rfl ud44 inf3 rfl rfl (by first | (simp <;> fail) | fail) rfl (by omega) _ (by exact rfl) (by omega) ?_) | refine R_load_rp rfl rfl 3 _ rfl ud3 rfl rfl rfl (by exact map_get (by assumption)) rfl ?_ | (refine kR 105 rfl ?_; (first | refine R_cmp rfl rfl (c := false) .lss 3 3 _ _ rfl rfl rfl (by exact congrArg some (decide_eq_false (by (try (dsimp only; fail_if_success done)); omega))) ?_ | refine R_sub rfl rfl 3 3 _ _ rfl rfl rfl (by exact wi) ?_)) | refine R_not rfl rfl _ _ rfl rfl ?_ | (refine kR 11 rfl ?_; (refine R_callv rfl rfl rfl rfl (hcv) (acc := _) rfl (fun h' hh => by ((repeat (first | exact .nil | refine .cons ?_ ?_ | exact .t _)); (first | done | fail))) rfl rfl ?_)) | refine RG.nil ⟨by kernel_rfl, ?_⟩)) | (with_reducible (first | refine wk0 ?_ | refine wk1 ?_ | refine wk2 ?_ | refine wk5 ?_ | refine wkd ?_)) | refine kct rfl ?_ | with_reducible refine AW.at_region _ ?_ | refine AW.at_draw 35 mixed 2 [[], [], [], [], [2, 3], [1, 2, 3, 4], [1, 2, 3, 4, 5], [], [], [7, 8], [7, 8, 9], [0, 1, 2, 3, 4, 5, 6, 7, 8, 9, 10], [0, 1, 2, 3, 4, 5, 6, 7, 8, 9, 10, 11], [0, 1, 2, 3, 4, 5, 6, 7, 8, 9, 10, 11, 12]] qR ?_)
          all_goals first | (exfalso; omega) | skip
          refine ⟨((i + j) / 2 + 1, j), ⟨by dsimp only; omega, by dsimp only; omega, h3, fun _ => ?_, h5⟩, by dsimp only; omega, ?_⟩
          · dsimp only; rw [Int.add_sub_cancel, ky, kx]; omega
          · exact Wk.cq 1
      · obtain rfl : i = j := by omega
        obtain ⟨st, rfl⟩ : ∃ n : Nat, i = n := ⟨i.toNat, by omega⟩
        obtain ⟨en, een⟩ : ∃ en : Nat, (mid : Int) + m - st = en := ⟨((mid : Int) + m - st).toNat, by omega⟩
        have q1 : a ≤ st := by omega
        have q2 : st ≤ m := by omega
        have q3 : m ≤ en := by omega
        have q4 : en ≤ b := by omega
        have q5 : st ≤ mid := by omega
        obtain ⟨s1, s2, s3, s4, s5⟩ := merge_mid (mid := mid) q1 q2 q3 q4 hb (by omega) hs1 hs2 (fun g1 g2 => by
          have := h4 (by omega)
          rwa [show ((st : Int) - 1).toNat = st - 1 by omega, show ((mid : Int) + m - 1 - ((st : Int) - 1)).toNat = en by omega] at this) (fun g1 g2 => by
          have := h5 (by omega)
          rwa [show ((mid : Int) + m - 1 - (st : Int)).toNat = en - 1 by omega, Int.toNat_natCast] at this)
        have n1 : ¬ (st < m ∧ m < en) → l = rot l st m en := fun h => (rot_same q2 q3 h).symm
        have n2 : ¬ (a < st ∧ st < mid) → rot l st m en = srt key (rot l st m en) a mid := fun h => by
          by_cases e : a = st
          · subst e; exact (srt_srtd (by omega) s2).symm
          · have e2 : st = mid := by omega
            subst e2; exact (srt_srtd q1 s1).symm
        have n3 : ¬ (mid < en ∧ en < b) → srt key (rot l st m en) a mid = srt key l a b := fun h => by
          rw [← s5]
          by_cases e : mid = en
          · subst e; exact (srt_srtd (by omega) s4).symm
          · have e2 : en = b := by omega
            subst e2; exact (srt_srtd (by omega) s3).symm
        have v1 : ∀ z ∈ rot l st m en, z ∈ l := fun z hz => rot_mem hz
        have v2 : ∀ z ∈ srt key (rot l st m en) a mid, z ∈ l := fun z hz => v1 z ((srt_mem (by omega)).1 hz)
        have w1 : (rot l st m en).length = l.length := rot_len q2 q3 (by omega)
        have w2 : (srt key (rot l st m en) a mid).length = l.length := by rw [srt_len (by omega) (by omega), w1]
        have cR : st < m ∧ m < en → _ := fun h => rotate_c f fi cap hup hps l k st m en h.1 h.2 (by omega) hl
        have c2 : a < st ∧ st < mid → _ := fun h => IH (rot l st m en) a st mid (by omega) h.1 h.2 (by omega) (by omega) (hg.mono v1) s1 s2
        have c3 : mid < en ∧ en < b → _ := fun h => IH (srt key (rot l st m en) a mid) mid en b (by omega) h.1 h.2 (by omega) (by omega) (hg.mono v2) s3 s4
        rw [s5] at c3
        rw [w1] at c2
        rw [w2] at c3
        clear s1 s2 s3 s4 s5 v1 v2 w1 w2 h4 h5 hs1 hs2 hg
        generalize srt key l a b = L3 at *
        generalize srt key (rot l st m en) a mid = L2 at *
        generalize rot l st m en = L1 at *
        rw [← een] at cR c3
        have t1 : (st < m ∧ m < en) ∨ (¬ (st < m ∧ m < en) ∧ l = L1) := (Classical.em _).imp id fun h => ⟨h, n1 h⟩
        have t2 : (a < st ∧ st < mid) ∨ (¬ (a < st ∧ st < mid) ∧ L1 = L2) := (Classical.em _).imp id fun h => ⟨h, n2 h⟩
        have t3 : (mid < en ∧ en < b) ∨ (¬ (mid < en ∧ en < b) ∧ L2 = L3) := (Classical.em _).imp id fun h => ⟨h, n3 h⟩
        clear n1 n2 n3
        rcases t1 with g1 | ⟨g1, rfl⟩ <;> rcases t2 with g2 | ⟨g2, rfl⟩ <;> rcases t3 with g3 | ⟨g3, rfl⟩
        all_goals
          repeat' (first | ((with_reducible refine kAL ?_); (first | (refine kL 0 rfl ?_; (first | refine A_mt rfl rfl rfl rfl ?_ | refine A_move rfl rfl _ (.inl rfl) (y := .sl _ _ _) rfl ?_ | refine A_move rfl rfl _ (.inl rfl) (y := .fn _ _ _) rfl ?_)) | (refine kL 105 rfl ?_; (first | refine A_sub rfl rfl 3 3 _ _ rfl rfl rfl (by first | exact wi | rfl) ?_ | (first | refine A_cmp rfl rfl (c := true) .lss 3 3 _ _ rfl rfl rfl (by exact congrArg some (decide_eq_true (by (try (dsimp only; fail_if_success done)); omega))) ?_ | refine A_cmp rfl rfl (c := false) .lss 3 3 _ _ rfl rfl rfl (by exact congrArg some (decide_eq_false (by (try (dsimp only; fail_if_success done)); omega))) ?_) | refine A_add rfl rfl 3 3 _ _ rfl rfl rfl (by first | exact wi | rfl) ?_)) | refine A_as rfl rfl rfl rfl ?_ | refine A_conv rfl rfl 3 156 _ rfl ud3 ud156 rfl (by exact wu) ?_ | (refine kL 5001 rfl ?_; refine A_shr rfl rfl 156 156 _ _ rfl rfl rfl (by decide) (fdiv_lit (m := 2) rfl (by decide)) ?_) | refine A_conv rfl rfl 156 3 _ rfl ud156 ud3 rfl (by exact wi) ?_ | refine A_pick rfl rfl _ _ _ rfl rfl rfl rfl rfl ?_ | (refine kL 5802 rfl ?_; (refine A_callio rfl rfl Try.func181 (by kernel_rfl) (by kernel_rfl) rfl [0] (by decide) (cR ?zq0) (by repeat (first | exact .nil | refine .cons rfl ?_ ?_ | exact .row)) (by ((repeat (first | exact .nil | exact .sel rfl | refine .cons ?_ ?_ | exact .t _ | exact hps _ _)); (first | done | fail))) qL (by (try simp only [setSel, upO, upA, upF, gIO, List.map_cons, List.map_nil, List.drop_succ_cons, List.drop_zero, List.drop_nil, List.length_cons, List.length_nil, List.set_cons_zero, List.set_cons_succ, List.cons_append, List.nil_append, List.append_nil, List.getElem?_cons_zero, List.getElem?_cons_succ, List.getElem?_nil, Nat.zero_add, Nat.reduceAdd, Nat.reduceSub]); rfl) (by (try simp only [setSel, upO, upA, upF, gIO, List.map_cons, List.map_nil, List.drop_succ_cons, List.drop_zero, List.drop_nil, List.length_cons, List.length_nil, List.set_cons_zero, List.set_cons_succ, List.cons_append, List.nil_append, List.append_nil, List.getElem?_cons_zero, List.getElem?_cons_succ, List.getElem?_nil, Nat.zero_add, Nat.reduceAdd, Nat.reduceSub]); rfl) ?_; (case zq0 => omega))) | (refine kL 5514 rfl ?_; (first | (refine A_callio rfl rfl Try.func172 (by kernel_rfl) (by kernel_rfl) rfl [0] (by decide) (c2 ?zq0) (by repeat (first | exact .nil | refine .cons rfl ?_ ?_ | exact .row)) (by ((repeat (first | exact .nil | exact .sel rfl | refine .cons ?_ ?_ | exact .t _ | exact hps _ _)); (first | done | fail))) qL (by (try simp only [setSel, upO, upA, upF, gIO, List.map_cons, List.map_nil, List.drop_succ_cons, List.drop_zero, List.drop_nil, List.length_cons, List.length_nil, List.set_cons_zero, List.set_cons_succ, List.cons_append, List.nil_append, List.append_nil, List.getElem?_cons_zero, List.getElem?_cons_succ, List.getElem?_nil, Nat.zero_add, Nat.reduceAdd, Nat.reduceSub]); rfl) (by (try simp only [setSel, upO, upA, upF, gIO, List.map_cons, List.map_nil, List.drop_succ_cons, List.drop_zero, List.drop_nil, List.length_cons, List.length_nil, List.set_cons_zero, List.set_cons_succ, List.cons_append, List.nil_append, List.append_nil, List.getElem?_cons_zero, List.getElem?_cons_succ, List.getElem?_nil, Nat.zero_add, Nat.reduceAdd, Nat.reduceSub]); rfl) ?_; (case zq0 => omega)) | (refine A_callio rfl rfl Try.func172 (by kernel_rfl) (by kernel_rfl) rfl [0] (by decide) (c3 ?zq0) (by repeat (first | exact .nil | refine .cons rfl ?_ ?_ | exact .row)) (by ((repeat (first | exact .nil | exact .sel rfl | refine .cons ?_ ?_ | exact .t _ | exact hps _ _)); (first | done | fail))) qL (by (try simp only [setSel, upO, upA, upF, gIO, List.map_cons, List.map_nil, List.drop_succ_cons, List.drop_zero, List.drop_nil, List.length_cons, List.length_nil, List.set_cons_zero, List.set_cons_succ, List.cons_append, List.nil_append, List.append_nil, List.getElem?_cons_zero, List.getElem?_cons_succ, List.getElem?_nil, Nat.zero_add, Nat.reduceAdd, Nat.reduceSub]); rfl) (by (try simp only [setSel, upO, upA, upF, gIO, List.map_cons, List.map_nil, List.drop_succ_cons, List.drop_zero, List.drop_nil, List.length_cons, List.length_nil, List.set_cons_zero, List.set_cons_succ, List.cons_append, List.nil_append, List.append_nil, List.getElem?_cons_zero, List.getElem?_cons_succ, List.getElem?_nil, Nat.zero_add, Nat.reduceAdd, Nat.reduceSub]); rfl) ?_; (case zq0 => omega)))) | refine AL.nil ?_ | refine AL.skip rfl rfl ?_)) | ((with_reducible refine kRG ?_); (first | (refine kR 0 rfl ?_; (first | refine R_mt rfl rfl rfl rfl ?_ | refine R_move rfl rfl _ (.inl rfl) (y := .sl _ _ _) rfl ?_ | refine R_move rfl rfl _ (.inl rfl) (y := .fn _ _ _) rfl ?_)) | (refine kR 1414 rfl ?_; refine R_idx_sl rfl rfl 44 _ _ rfl ud44 inf3 rfl rfl (by first | (simp <;> fail) | fail) rfl (by omega) _ (by exact rfl) (by omega) ?_) | refine R_sub rfl rfl 3 3 _ _ rfl rfl rfl (by exact wi) ?_)) | (with_reducible (first | refine wk0 ?_ | refine wk1 ?_ | refine wk2 ?_ | refine wk4 ?_ | refine wk7 ?_ | refine wka ?_ | refine wkc ?_ | refine wkd ?_)) | refine kct rfl ?_ | refine kcf rfl ?_ | with_reducible refine AW.at_region _ ?_ | refine AW.at_draw 35 mixed 2 [[], [], [], [], [2, 3], [1, 2, 3, 4], [1, 2, 3, 4, 5], [], [], [7, 8], [7, 8, 9], [0, 1, 2, 3, 4, 5, 6, 7, 8, 9, 10], [0, 1, 2, 3, 4, 5, 6, 7, 8, 9, 10, 11], [0, 1, 2, 3, 4, 5, 6, 7, 8, 9, 10, 11, 12]] qR ?_)
          all_goals first | (exfalso; omega) | (exact Fin.q Try.results172 .nil [])
include hup hps in
theorem symMerge_c : ∀ (N : Nat) (l : List Int) (a m b : Nat), b - a = N → a < m → m < b → b ≤ l.length → l.length ≤ 1152921504606846976 → CmpV (.fn (.func f) fi cap) key l → srtd key (seg l a m) → srtd key (seg l m b) →
    Cio Try.prog 172 [.sl 0 k l.length, i64 a, i64 m, i64 b, .fn (.func f) fi cap] [.row k 3 1 (l.map tI)] (.tup []) [.row k 3 1 ((srt key l a b).map tI)] := by
  intro N
  induction N using Nat.strongRecOn with
  | _ N ih =>
    intro l a m b hN h1 h2 h3 h4 h5 h6 h7
    by_cases e1 : m = a + 1
    · exact merge1_c f fi cap key hup k l a m b e1 h2 h3 h4 h5 h7
    · by_cases e2 : b = m + 1
      · exact merge2_c f fi cap key hup k l a m b (by omega) e2 h3 h4 h5 h6
      · exact merge3_c f fi cap key hup hps k l a m b (by omega) (by omega) h3 h4 h5 h6 h7 fun l a' m' b' g0 => ih (b' - a') (by omega) l a' m' b' rfl
end
end Go.Proofs.Ytkichjejadkdgaa
