/- Stable sorts of rows (int): slices.SortStableFunc. -/
import Derived.Test.YtkichjejadkdgaaTSortM
namespace Go.Proofs.Ytkichjejadkdgaa
set_option linter.unusedVariables false
set_option linter.unusedSimpArgs false
set_option linter.unnecessarySimpa false
open Go.RowKit
set_option maxHeartbeats 32000000
attribute [local irreducible] AL AW RG Fin C Cd Cio thenQ blockQ retQ
set_option maxRecDepth 100000
set_option maxHeartbeats 16000000 in
theorem stable_c (f : FuncId) (fi cap : List AV) (key : Int → Int) (l : List Int) (k : Nat) (hl : l.length ≤ 1152921504606846976) (hg : CmpV (.fn (.func f) fi cap) key l)
    (hup : upB (keepG 1) (.fn (.func f) fi cap) = .fn (.func f) fi cap) (hps : ∀ heap sel, Pass heap sel (.fn (.func f) fi cap) (.fn (.func f) fi cap)) :
    Cio Try.prog 143 [.sl 0 k l.length, i64 l.length, .fn (.func f) fi cap] [.row k 3 1 (l.map tI)] (.tup []) [.row k 3 1 ((isort key l).map tI)] := by
  refine Cio.enter' Try.func143 rfl Try.ntmps143 rfl qM ?_
  repeat' (first | ((with_reducible refine kAL ?_); (first | refine A_as rfl rfl rfl rfl ?_ | refine A_mt rfl rfl rfl rfl ?_ | refine AL.nil ?_)) | with_reducible refine AW.at_region _ ?_ | (with_reducible (first | refine wk0 ?_ | refine wk1 ?_ | refine wk2 ?_)))
  refine AW.loopP (fun (x : Nat × List Int) => 20 ∣ x.1 ∧ x.1 ≤ l.length ∧ (∀ c, 20 ∣ c → c < x.1 → srtd key (seg x.2 c (c + 20))) ∧ SE key l x.2 ∧ x.2.length = l.length) (fun (x : Nat × List Int) => (pu (pu (pu (pu (pu (pu (fun _ => .any) 0 (.sl 0 k l.length)) 1 (i64 l.length)) 2 (.fn (.func f) fi cap)) 6 (i64 20)) 7 (i64 x.1)) 8 (i64 ((x.1 + 20 : Nat) : Int)))) (fun (x : Nat × List Int) => [.row k 3 1 (x.2.map tI)]) (fun (x : Nat × List Int) => l.length - x.1) ((0, l)) ?_ ?_ ?_
  · exact ⟨Nat.dvd_zero _, Nat.zero_le _, fun c _ h => by dsimp only at h; omega, SE.refl _, rfl⟩
  · exact Wk.cq 1
  · rintro ⟨a, M⟩ ⟨h2, h3, h4, h5, h6⟩
    dsimp only at h2 h3 h4 h5 h6 ⊢
    have hgM := hg.mono fun x hx => h5.mem.1 hx
    by_cases hb : a + 20 ≤ l.length
    · have c1 := insert_c f fi cap key M k a (a + 20) (by omega) (by omega) (by omega) hgM hup
      rw [h6] at c1
      repeat' (first | ((with_reducible refine kAL ?_); (first | refine A_as rfl rfl rfl rfl ?_ | (refine kL 0 rfl ?_; (first | refine A_mt rfl rfl rfl rfl ?_ | refine A_move rfl rfl _ (.inl rfl) (y := .sl _ _ _) rfl ?_ | refine A_move rfl rfl _ (.inl rfl) (y := .fn _ _ _) rfl ?_)) | (refine kL 105 rfl ?_; (first | refine A_cmp rfl rfl (c := true) .leq 3 3 _ _ rfl rfl rfl (by exact congrArg some (decide_eq_true (by (try (dsimp only; fail_if_success done)); omega))) ?_ | refine A_add rfl rfl 3 3 _ _ rfl rfl rfl (by exact wi) ?_)) | (refine kL 5482 rfl ?_; refine A_callio rfl rfl Try.func171 (by kernel_rfl) (by kernel_rfl) rfl [0] (by decide) (c1) (by repeat (first | exact .nil | refine .cons rfl ?_ ?_ | exact .row)) (by ((repeat (first | exact .nil | exact .sel rfl | refine .cons ?_ ?_ | exact .t _ | exact hps _ _)); (first | done | fail))) qL (by (try simp only [setSel, upO, upA, upF, gIO, List.map_cons, List.map_nil, List.drop_succ_cons, List.drop_zero, List.drop_nil, List.length_cons, List.length_nil, List.set_cons_zero, List.set_cons_succ, List.cons_append, List.nil_append, List.append_nil, List.getElem?_cons_zero, List.getElem?_cons_succ, List.getElem?_nil, Nat.zero_add, Nat.reduceAdd, Nat.reduceSub]); rfl) (by (try simp only [setSel, upO, upA, upF, gIO, List.map_cons, List.map_nil, List.drop_succ_cons, List.drop_zero, List.drop_nil, List.length_cons, List.length_nil, List.set_cons_zero, List.set_cons_succ, List.cons_append, List.nil_append, List.append_nil, List.getElem?_cons_zero, List.getElem?_cons_succ, List.getElem?_nil, Nat.zero_add, Nat.reduceAdd, Nat.reduceSub]); rfl) ?_) | refine AL.nil ?_)) | with_reducible refine AW.at_region _ ?_ | (with_reducible (first | refine wk0 ?_ | refine wk1 ?_ | refine wk2 ?_ | refine wk5 ?_ | refine wkd ?_)) | refine kct rfl ?_)
      all_goals first | (exfalso; omega) | skip
      refine ⟨(a + 20, srt key M a (a + 20)), ⟨Nat.dvd_add h2 (Nat.dvd_refl _), hb, blk_next h2 h4 (by omega), h5.trans (srt_se (by omega)), by dsimp only; rw [srt_len (by omega) (by omega), h6]⟩, by dsimp only; omega, ?_⟩
      exact Wk.cq 1
    · have c1 := insert_c f fi cap key M k a l.length (by omega) (by omega) (by omega) hgM hup
      have f1 := blk_last h2 h4 (by omega) (by omega)
      have f2 := h5.trans (srt_se (key := key) (l := M) (a := a) (b := l.length) (by omega))
      have f3 := srt_len (key := key) (l := M) (a := a) (b := l.length) (by omega) (by omega)
      rw [h6] at c1 f1 f3
      clear h4 h5 hgM
      generalize srt key M a l.length = M1 at *
      repeat' (first | ((with_reducible refine kAL ?_); (first | (refine kL 0 rfl ?_; (first | refine A_mt rfl rfl rfl rfl ?_ | refine A_move rfl rfl _ (.inl rfl) (y := .sl _ _ _) rfl ?_ | refine A_move rfl rfl _ (.inl rfl) (y := .fn _ _ _) rfl ?_)) | refine A_cmp rfl rfl (c := false) .leq 3 3 _ _ rfl rfl rfl (by exact congrArg some (decide_eq_false (by (try (dsimp only; fail_if_success done)); omega))) ?_ | (refine kL 5482 rfl ?_; refine A_callio rfl rfl Try.func171 (by kernel_rfl) (by kernel_rfl) rfl [0] (by decide) (c1) (by repeat (first | exact .nil | refine .cons rfl ?_ ?_ | exact .row)) (by ((repeat (first | exact .nil | exact .sel rfl | refine .cons ?_ ?_ | exact .t _ | exact hps _ _)); (first | done | fail))) qL (by (try simp only [setSel, upO, upA, upF, gIO, List.map_cons, List.map_nil, List.drop_succ_cons, List.drop_zero, List.drop_nil, List.length_cons, List.length_nil, List.set_cons_zero, List.set_cons_succ, List.cons_append, List.nil_append, List.append_nil, List.getElem?_cons_zero, List.getElem?_cons_succ, List.getElem?_nil, Nat.zero_add, Nat.reduceAdd, Nat.reduceSub]); rfl) (by (try simp only [setSel, upO, upA, upF, gIO, List.map_cons, List.map_nil, List.drop_succ_cons, List.drop_zero, List.drop_nil, List.length_cons, List.length_nil, List.set_cons_zero, List.set_cons_succ, List.cons_append, List.nil_append, List.append_nil, List.getElem?_cons_zero, List.getElem?_cons_succ, List.getElem?_nil, Nat.zero_add, Nat.reduceAdd, Nat.reduceSub]); rfl) ?_) | refine AL.nil ?_)) | with_reducible refine AW.at_region _ ?_ | (with_reducible (first | refine wk0 ?_ | refine wk1 ?_ | refine wk2 ?_ | refine wk4 ?_ | refine wk7 ?_ | refine wkc ?_)) | refine kcf rfl ?_)
      all_goals first | (exfalso; omega) | skip
      refine AW.loopP (fun (y : Nat × List Int) => 0 < y.1 ∧ y.1 ≤ 2 * l.length + 20 ∧ (∀ c, y.1 ∣ c → srtd key (seg y.2 c (c + y.1))) ∧ SE key l y.2 ∧ y.2.length = l.length) (fun (y : Nat × List Int) => (pu (pu (pu (pu (fun _ => .any) 0 (.sl 0 k l.length)) 1 (i64 l.length)) 2 (.fn (.func f) fi cap)) 6 (i64 y.1))) (fun (y : Nat × List Int) => [.row k 3 1 (y.2.map tI)]) (fun (y : Nat × List Int) => l.length + 1 - y.1) ((20, M1)) ?_ ?_ ?_
      · exact ⟨by dsimp only; omega, by dsimp only; omega, f1, f2, f3⟩
      · exact Wk.cq 1
      · rintro ⟨d, M2⟩ ⟨g1, g2, g3, g4, g5⟩
        dsimp only at g1 g2 g3 g4 g5 ⊢
        by_cases hd : d < l.length
        · repeat' (first | ((with_reducible refine kAL ?_); (first | refine A_as rfl rfl rfl rfl ?_ | refine A_mt rfl rfl rfl rfl ?_ | (refine kL 105 rfl ?_; (first | refine A_cmp rfl rfl (c := true) .lss 3 3 _ _ rfl rfl rfl (by exact congrArg some (decide_eq_true (by (try (dsimp only; fail_if_success done)); omega))) ?_ | refine A_mul rfl rfl 3 3 _ _ rfl rfl rfl (by exact wi) ?_)) | refine AL.nil ?_)) | with_reducible refine AW.at_region _ ?_ | (with_reducible (first | refine wk0 ?_ | refine wk1 ?_ | refine wk2 ?_ | refine wkd ?_)) | refine kct rfl ?_)
          all_goals first | (exfalso; omega) | skip
          refine AW.loopP (fun (z : Nat × Nat × List Int) => 2 * d ∣ z.1 ∧ z.1 ≤ l.length ∧ z.2.1 = z.1 + 2 * d ∧ (∀ c, 2 * d ∣ c → c < z.1 → srtd key (seg z.2.2 c (c + 2 * d))) ∧ (∀ c, d ∣ c → z.1 ≤ c → srtd key (seg z.2.2 c (c + d))) ∧ SE key l z.2.2 ∧ z.2.2.length = l.length) (fun (z : Nat × Nat × List Int) => (pu (pu (pu (pu (pu (pu (fun _ => .any) 0 (.sl 0 k l.length)) 1 (i64 l.length)) 2 (.fn (.func f) fi cap)) 6 (i64 d)) 7 (i64 z.1)) 8 (i64 z.2.1))) (fun (z : Nat × Nat × List Int) => [.row k 3 1 (z.2.2.map tI)]) (fun (z : Nat × Nat × List Int) => l.length - z.1) ((0, 2 * d, M2)) ?_ ?_ ?_
          · exact ⟨Nat.dvd_zero _, Nat.zero_le _, by dsimp only; omega, fun c _ h => by dsimp only at h; omega, fun c hc _ => g3 c hc, g4, g5⟩
          · exact Wk.cq 1
          · rintro ⟨a, b, M3⟩ ⟨k1, k2, k3, k4, k5, k6, k7⟩
            dsimp only at k1 k2 k3 k4 k5 k6 k7 ⊢
            have hgM := hg.mono fun x hx => k6.mem.1 hx
            have kd : d ∣ a := Nat.dvd_trans (Nat.dvd_mul_left _ _) k1
            have kd2 : d ∣ a + d := Nat.dvd_add kd (Nat.dvd_refl _)
            have t1 := k5 a kd (Nat.le_refl _)
            have t2 := k5 (a + d) kd2 (by omega)
            by_cases hb : b ≤ l.length
            · have cM := symMerge_c f fi cap key hup hps k _ M3 a (a + d) b rfl (by omega) (by omega) (by omega) (by omega) hgM t1 (by rwa [show a + d + d = b by omega] at t2)
              rw [k7] at cM
              have u1 : ∀ c, 2 * d ∣ c → c < b → srtd key (seg (srt key M3 a b) c (c + 2 * d)) := by have := blk_next k1 k4 (by omega); rwa [← k3] at this
              have u2 := blk_others (b := b) k5 (by omega) (by omega)
              have u3 := k6.trans (srt_se (key := key) (l := M3) (a := a) (b := b) (by omega))
              have u4 := srt_len (key := key) (l := M3) (a := a) (b := b) (by omega) (by omega)
              rw [k7] at u4
              generalize srt key M3 a b = M4 at *
              repeat' (first | ((with_reducible refine kAL ?_); (first | refine A_as rfl rfl rfl rfl ?_ | (refine kL 0 rfl ?_; (first | refine A_mt rfl rfl rfl rfl ?_ | refine A_move rfl rfl _ (.inl rfl) (y := .sl _ _ _) rfl ?_ | refine A_move rfl rfl _ (.inl rfl) (y := .fn _ _ _) rfl ?_)) | (refine kL 105 rfl ?_; (first | refine A_cmp rfl rfl (c := true) .leq 3 3 _ _ rfl rfl rfl (by exact congrArg some (decide_eq_true (by (try (dsimp only; fail_if_success done)); omega))) ?_ | refine A_add rfl rfl 3 3 _ _ rfl rfl rfl (by first | exact wi | rfl) ?_ | refine A_mul rfl rfl 3 3 _ _ rfl rfl rfl (by exact wi) ?_)) | (refine kL 5514 rfl ?_; refine A_callio rfl rfl Try.func172 (by kernel_rfl) (by kernel_rfl) rfl [0] (by decide) (cM) (by repeat (first | exact .nil | refine .cons rfl ?_ ?_ | exact .row)) (by ((repeat (first | exact .nil | exact .sel rfl | refine .cons ?_ ?_ | exact .t _ | exact hps _ _)); (first | done | fail))) qL (by (try simp only [setSel, upO, upA, upF, gIO, List.map_cons, List.map_nil, List.drop_succ_cons, List.drop_zero, List.drop_nil, List.length_cons, List.length_nil, List.set_cons_zero, List.set_cons_succ, List.cons_append, List.nil_append, List.append_nil, List.getElem?_cons_zero, List.getElem?_cons_succ, List.getElem?_nil, Nat.zero_add, Nat.reduceAdd, Nat.reduceSub]); rfl) (by (try simp only [setSel, upO, upA, upF, gIO, List.map_cons, List.map_nil, List.drop_succ_cons, List.drop_zero, List.drop_nil, List.length_cons, List.length_nil, List.set_cons_zero, List.set_cons_succ, List.cons_append, List.nil_append, List.append_nil, List.getElem?_cons_zero, List.getElem?_cons_succ, List.getElem?_nil, Nat.zero_add, Nat.reduceAdd, Nat.reduceSub]); rfl) ?_) | refine AL.nil ?_)) | with_reducible refine AW.at_region _ ?_ | (with_reducible (first | refine wk0 ?_ | refine wk1 ?_ | refine wk2 ?_ | refine wk5 ?_ | refine wkd ?_)) | refine kct rfl ?_)
              all_goals first | (exfalso; omega) | skip
              refine ⟨(b, b + 2 * d, M4), ⟨by dsimp only; rw [k3]; exact Nat.dvd_add k1 (Nat.dvd_refl _), hb, rfl, u1, u2, u3, u4⟩, by dsimp only; omega, ?_⟩
              exact Wk.cq 1
            · by_cases hm : a + d < l.length
              · have cM := symMerge_c f fi cap key hup hps k _ M3 a (a + d) l.length rfl (by omega) (by omega) (by omega) (by omega) hgM t1 (by rwa [seg_past (c := l.length) (by omega) (by omega)] at t2)
                rw [k7] at cM
                have u1 : ∀ c, 2 * d ∣ c → srtd key (seg (srt key M3 a l.length) c (c + 2 * d)) := by have := blk_last k1 k4 (by omega) (by omega); rwa [k7] at this
                have u3 := k6.trans (srt_se (key := key) (l := M3) (a := a) (b := l.length) (by omega))
                have u4 := srt_len (key := key) (l := M3) (a := a) (b := l.length) (by omega) (by omega)
                rw [k7] at u4
                rw [Nat.mul_comm] at u1
                generalize srt key M3 a l.length = M4 at *
                repeat' (first | ((with_reducible refine kAL ?_); (first | refine A_as rfl rfl rfl rfl ?_ | (refine kL 0 rfl ?_; (first | refine A_mt rfl rfl rfl rfl ?_ | refine A_move rfl rfl _ (.inl rfl) (y := .sl _ _ _) rfl ?_ | refine A_move rfl rfl _ (.inl rfl) (y := .fn _ _ _) rfl ?_)) | (refine kL 105 rfl ?_; (first | refine A_cmp rfl rfl (c := false) .leq 3 3 _ _ rfl rfl rfl (by exact congrArg some (decide_eq_false (by (try (dsimp only; fail_if_success done)); omega))) ?_ | refine A_add rfl rfl 3 3 _ _ rfl rfl rfl (by first | exact wi | rfl) ?_ | refine A_cmp rfl rfl (c := true) .lss 3 3 _ _ rfl rfl rfl (by exact congrArg some (decide_eq_true (by (try (dsimp only; fail_if_success done)); omega))) ?_ | refine A_mul rfl rfl 3 3 _ _ rfl rfl rfl (by exact wi) ?_)) | (refine kL 5514 rfl ?_; refine A_callio rfl rfl Try.func172 (by kernel_rfl) (by kernel_rfl) rfl [0] (by decide) (cM) (by repeat (first | exact .nil | refine .cons rfl ?_ ?_ | exact .row)) (by ((repeat (first | exact .nil | exact .sel rfl | refine .cons ?_ ?_ | exact .t _ | exact hps _ _)); (first | done | fail))) qL (by (try simp only [setSel, upO, upA, upF, gIO, List.map_cons, List.map_nil, List.drop_succ_cons, List.drop_zero, List.drop_nil, List.length_cons, List.length_nil, List.set_cons_zero, List.set_cons_succ, List.cons_append, List.nil_append, List.append_nil, List.getElem?_cons_zero, List.getElem?_cons_succ, List.getElem?_nil, Nat.zero_add, Nat.reduceAdd, Nat.reduceSub]); rfl) (by (try simp only [setSel, upO, upA, upF, gIO, List.map_cons, List.map_nil, List.drop_succ_cons, List.drop_zero, List.drop_nil, List.length_cons, List.length_nil, List.set_cons_zero, List.set_cons_succ, List.cons_append, List.nil_append, List.append_nil, List.getElem?_cons_zero, List.getElem?_cons_succ, List.getElem?_nil, Nat.zero_add, Nat.reduceAdd, Nat.reduceSub]); rfl) ?_) | refine AL.nil ?_)) | with_reducible refine AW.at_region _ ?_ | (with_reducible (first | refine wk0 ?_ | refine wk2 ?_ | refine wk4 ?_ | refine wk5 ?_ | refine wk7 ?_ | refine wkc ?_)) | refine kct rfl ?_ | refine kcf rfl ?_)
                all_goals first | (exfalso; omega) | skip
                refine ⟨(d * 2, M4), ⟨by dsimp only; omega, by dsimp only; omega, u1, u3, u4⟩, by dsimp only; omega, ?_⟩
                exact Wk.cq 1
              · have u1 : ∀ c, 2 * d ∣ c → srtd key (seg M3 c (c + 2 * d)) := blk_rest k1 k4 k5 (by omega)
                rw [Nat.mul_comm] at u1
                repeat' (first | ((with_reducible refine kAL ?_); (first | refine A_as rfl rfl rfl rfl ?_ | refine A_mt rfl rfl rfl rfl ?_ | (refine kL 105 rfl ?_; (first | refine A_cmp rfl rfl (c := false) .leq 3 3 _ _ rfl rfl rfl (by exact congrArg some (decide_eq_false (by (try (dsimp only; fail_if_success done)); omega))) ?_ | refine A_add rfl rfl 3 3 _ _ rfl rfl rfl (by first | exact wi | rfl) ?_ | refine A_cmp rfl rfl (c := false) .lss 3 3 _ _ rfl rfl rfl (by exact congrArg some (decide_eq_false (by (try (dsimp only; fail_if_success done)); omega))) ?_ | refine A_mul rfl rfl 3 3 _ _ rfl rfl rfl (by exact wi) ?_)) | refine AL.nil ?_)) | with_reducible refine AW.at_region _ ?_ | (with_reducible (first | refine wk0 ?_ | refine wk2 ?_ | refine wk4 ?_ | refine wk5 ?_ | refine wk7 ?_ | refine wkc ?_ | refine wkd ?_)) | refine kcf rfl ?_)
                all_goals first | (exfalso; omega) | skip
                refine ⟨(d * 2, M3), ⟨by dsimp only; omega, by dsimp only; omega, u1, k6, k7⟩, by dsimp only; omega, ?_⟩
                exact Wk.cq 1
        · rw [blk_all g3 g4 (by omega)]
          repeat' (first | ((with_reducible refine kAL ?_); (first | refine A_mt rfl rfl rfl rfl ?_ | refine A_cmp rfl rfl (c := false) .lss 3 3 _ _ rfl rfl rfl (by exact congrArg some (decide_eq_false (by (try (dsimp only; fail_if_success done)); omega))) ?_ | refine AL.nil ?_)) | with_reducible refine AW.at_region _ ?_ | (with_reducible (first | refine wk0 ?_ | refine wk2 ?_ | refine wk4 ?_ | refine wk7 ?_ | refine wka ?_ | refine wkc ?_)) | refine kcf rfl ?_)
          all_goals first | (exfalso; omega) | (exact Fin.q Try.results143 .nil [])
theorem sortStable_c (f : FuncId) (fi cap : List AV) (key : Int → Int) (l : List Int) (k : Nat) (hl : l.length ≤ 1152921504606846976) (hg : CmpV (.fn (.func f) fi cap) key l)
    (hup : upB (keepG 1) (.fn (.func f) fi cap) = .fn (.func f) fi cap) (hps : ∀ heap sel, Pass heap sel (.fn (.func f) fi cap) (.fn (.func f) fi cap)) :
    Cio Try.prog 94 [.sl 0 k l.length, .fn (.func f) fi cap] [.row k 3 1 (l.map tI)] (.tup []) [.row k 3 1 ((isort key l).map tI)] := by
  have hlt : (l.map tI).length = l.length := List.length_map _
  have c1 := stable_c f fi cap key l k hl hg hup hps
  refine Cio.enter' Try.func94 rfl Try.ntmps94 rfl qM ?_
  repeat' (first | ((with_reducible refine kAL ?_); (first | (refine kL 0 rfl ?_; (first | refine A_move rfl rfl _ (.inl rfl) (y := .sl _ _ _) rfl ?_ | refine A_move rfl rfl _ (.inl rfl) (y := .fn _ _ _) rfl ?_)) | refine A_len rfl rfl 44 _ rfl ud44 rfl ?_ | (refine kL 4586 rfl ?_; refine A_callio rfl rfl Try.func143 (by kernel_rfl) (by kernel_rfl) rfl [0] (by decide) (c1) (by repeat (first | exact .nil | refine .cons rfl ?_ ?_ | exact .row)) (by ((repeat (first | exact .nil | exact .sel rfl | refine .cons ?_ ?_ | exact .t _ | exact hps _ _)); (first | done | fail))) qL (by (try simp only [setSel, upO, upA, upF, gIO, List.map_cons, List.map_nil, List.drop_succ_cons, List.drop_zero, List.drop_nil, List.length_cons, List.length_nil, List.set_cons_zero, List.set_cons_succ, List.cons_append, List.nil_append, List.append_nil, List.getElem?_cons_zero, List.getElem?_cons_succ, List.getElem?_nil, Nat.zero_add, Nat.reduceAdd, Nat.reduceSub]); rfl) (by (try simp only [setSel, upO, upA, upF, gIO, List.map_cons, List.map_nil, List.drop_succ_cons, List.drop_zero, List.drop_nil, List.length_cons, List.length_nil, List.set_cons_zero, List.set_cons_succ, List.cons_append, List.nil_append, List.append_nil, List.getElem?_cons_zero, List.getElem?_cons_succ, List.getElem?_nil, Nat.zero_add, Nat.reduceAdd, Nat.reduceSub]); rfl) ?_) | refine AL.nil ?_)) | with_reducible refine AW.at_region _ ?_ | (with_reducible (refine wka ?_)))
  all_goals (exact Fin.q Try.results94 .nil [])
end Go.Proofs.Ytkichjejadkdgaa
