/- What is free by slots, and when a pool is looked through. -/
import Derived.Test.YtdneipibbdadcaaTEpoch
namespace Go.Proofs.Ytdneipibbdadcaa
set_option linter.unusedVariables false
set_option linter.unusedSimpArgs false
set_option linter.unnecessarySimpa false
open Go.RowKit
attribute [local irreducible] AL AW RG Fin C Cd Cio thenQ blockQ retQ
set_option maxRecDepth 100000
def ixI : List Int → Int → Int
  | [], _ => -1
  | a :: l, x => if a = x then 0 else if ixI l x < 0 then -1 else ixI l x + 1
theorem ixI_ge : ∀ (l : List Int) (x : Int), -1 ≤ ixI l x
  | [], _ => by simp [ixI]
  | a :: l, x => by have := ixI_ge l x; unfold ixI; repeat' split
                    all_goals omega
theorem ixI_at : ∀ (l : List Int) (x : Int) (j : Nat), (∀ q, q < j → l.getD q 0 ≠ x) → l[j]? = some x → ixI l x = j
  | [], _, _, _, h => by simp at h
  | a :: l, x, 0, _, h => by simp at h; simp [ixI, h]
  | a :: l, x, j + 1, h0, h => by
    have h1 := ixI_at l x j (fun q hq => by have := h0 (q + 1) (by omega); simpa using this) (by simpa using h)
    have h2 : a ≠ x := by have := h0 0 (by omega); simpa using this
    unfold ixI
    rw [if_neg h2, if_neg (by omega), h1]; rfl
theorem ixI_none : ∀ (l : List Int) (x : Int), (∀ q, q < l.length → l.getD q 0 ≠ x) → ixI l x = -1
  | [], _, _ => rfl
  | a :: l, x, h0 => by
    have h1 := ixI_none l x (fun q hq => by have := h0 (q + 1) (by simp; omega); simpa using this)
    have h2 : a ≠ x := by have := h0 0 (by simp); simpa using this
    unfold ixI
    rw [if_neg h2, if_pos (by omega)]
theorem ixI_mem : ∀ (l : List Int) (x : Int), 0 ≤ ixI l x ↔ x ∈ l
  | [], x => by simp [ixI]
  | a :: l, x => by
    have := ixI_mem l x
    unfold ixI
    by_cases h : a = x
    · simp [h]
    · rw [if_neg h]
      have h' : x ≠ a := fun e => h e.symm
      simp only [List.mem_cons, h', false_or]
      by_cases h2 : ixI l x < 0
      · rw [if_pos h2, ← this]; omega
      · rw [if_neg h2, ← this]; omega
theorem mem_getD {l : List Int} {x : Int} : x ∈ l ↔ ∃ q, q < l.length ∧ l.getD q 0 = x := by
  constructor
  · intro h
    obtain ⟨q, hq⟩ := List.getElem?_of_mem h
    have := get_lt hq
    exact ⟨q, this, by rw [List.getD_eq_getElem?_getD, hq]; rfl⟩
  · rintro ⟨q, hq, rfl⟩
    rw [List.getD_eq_getElem?_getD, List.getElem?_eq_getElem hq]
    exact List.getElem_mem hq
theorem indexU_c (l : List Int) (x : Int) (hl : l.length ≤ 1152921504606846976) : Cd Try.prog 123 [.ln (l.map tU), u64 x] (i64 (ixI l x)) [] := by
  have h1 : (l.map tU).length = l.length := List.length_map _
  first | refine Cd.enter' Try.func123 rfl Try.ntmps123 rfl ?_ | refine Cio.enter' Try.func123 rfl Try.ntmps123 rfl (by simp only [List.length_cons, List.length_nil, Nat.zero_add, Nat.reduceAdd]; rfl) ?_ | refine C.enter' Try.func123 rfl Try.ntmps123 rfl (by simp only [List.length_cons, List.length_nil, Nat.zero_add, Nat.reduceAdd]; rfl) ?_
  repeat' (first | with_reducible refine AW.seq ?_ | with_reducible refine AW.block ?_ | with_reducible refine thenQ_n ?_ | ((with_reducible refine AW.at_region 0 ?_); (refine A_move rfl rfl _ (.inr rfl) (y := .t _) rfl ?_ <;> try refine AL.nil ?_)) | ((with_reducible refine AW.at_region 1 ?_); (refine A_move rfl rfl _ (.inl rfl) (y := .ln _) rfl ?_ <;> try (refine A_len rfl rfl _ _ rfl Try.underlying80 rfl ?_ <;> try (refine A_move rfl rfl _ (.inl rfl) (y := .t _) rfl ?_ <;> try refine AL.nil ?_)))))
  refine AW.loopP (fun (j : Nat) => j ≤ l.length ∧ ∀ q, q < j → l.getD q 0 ≠ x) (fun (j : Nat) => (pu (pu (pu (pu (fun _ => .any) 0 (.ln (l.map tU))) 1 (u64 x)) 7 (i64 (l.map tU).length)) 8 (i64 j))) (fun (j : Nat) => []) (fun (j : Nat) => l.length - j) (0) ?_ ?_ ?_
  · exact ⟨Nat.zero_le _, fun q hq => by omega⟩
  · refine Wk.cut2 0 (Nat.le_of_ble_eq_true rfl) rfl ?_; repeat' (first | exact Fk.nil | refine Fk.pu ?_ ?_ | rfl | exact hup)
  · rintro j ⟨h2, h3⟩
    by_cases hj : j < l.length
    · obtain ⟨a, ha⟩ : ∃ a, l[j]? = some a := ⟨_, List.getElem?_eq_getElem hj⟩
      repeat' (first | with_reducible refine AW.seq ?_ | with_reducible refine AW.block ?_ | with_reducible refine thenQ_n ?_ | with_reducible refine thenQ_r ?_ | with_reducible refine blockQ_n ?_ | with_reducible refine blockQ_r ?_ | with_reducible refine retQ_r ?_ | with_reducible refine AW.ret ?_ | with_reducible refine AW.skip ?_ | (refine AW.cond rfl (fun hc => ?_) (fun hc => ?_) <;> (try simp only [decide_eq_true_eq, decide_eq_false_iff_not, Bool.not_eq_true', Bool.not_eq_false'] at hc) <;> (try contradiction)) | ((with_reducible refine AW.at_region 2 ?_); (refine A_cmp rfl rfl (c := true) _ _ _ _ _ rfl rfl rfl qT ?_ <;> try refine AL.nil ?_)) | ((with_reducible refine AW.at_region 3 ?_); (refine A_move rfl rfl _ (.inl rfl) (y := .t _) rfl ?_ <;> try (refine A_move rfl rfl _ (.inr rfl) (y := .t _) rfl ?_ <;> try refine AL.nil ?_))) | ((with_reducible refine AW.at_region 4 ?_); (refine A_move rfl rfl _ (.inl rfl) (y := .t _) rfl ?_ <;> try (refine A_move rfl rfl _ (.inl rfl) (y := .ln _) rfl ?_ <;> try (refine A_move rfl rfl _ (.inl rfl) (y := .t _) rfl ?_ <;> try (refine A_idx rfl rfl _ _ _ rfl Try.underlying80 inf91 (by decide) (by exact .inl rfl) rfl (by omega) _ (by with_reducible exact Int.toNat_natCast _) (by exact map_get (by assumption)) rfl (cs' := [_]) rfl ?_ <;> try (refine A_load_lp rfl rfl _ _ rfl Try.underlying91 rfl rfl rfl ?_ <;> try (refine A_cmp rfl rfl _ _ _ _ _ rfl rfl rfl rfl ?_ <;> try refine AL.nil ?_))))))) | ((with_reducible refine AW.at_region 5 ?_); (refine A_move rfl rfl _ (.inl rfl) (y := .t _) rfl ?_ <;> try (refine A_move rfl rfl _ (.inr rfl) (y := .t _) rfl ?_ <;> try refine AL.nil ?_))) | ((with_reducible refine AW.at_region 6 ?_); (refine A_add rfl rfl _ _ _ _ rfl rfl rfl (by exact IntWalk.i64_in _ (by omega)) ?_ <;> try (refine A_move rfl rfl _ (.inl rfl) (y := .t _) rfl ?_ <;> try refine AL.nil ?_))))
      all_goals first | (exfalso; omega) | skip
      · refine Fin.mkv (rs := _) Try.results123 (.cons (.tmp rfl) .nil) [] (by decide) rfl ?_ ?_ ?_ <;> repeat' (first | exact .nil | refine .cons rfl ?_ ?_ | refine .cons ?_ ?_ | refine .row ?_ | refine .rset ?_ | refine .box ?_ | exact .gone | refine .aggL ?_ | refine .tupL ?_ | refine .old rfl ?_ | refine .new rfl rfl rfl ?_ | exact .nl | exact .optr rfl | exact .nptr rfl rfl rfl | refine .t ?_ | exact .any _ | rfl)
        rw [ixI_at l x j h3 (by rw [ha, hc])]
      · refine ⟨j + 1, ⟨by omega, fun q hq => ?_⟩, by omega, ?_⟩
        · by_cases e : q = j
          · subst e; rw [List.getD_eq_getElem?_getD, ha]; exact fun e => hc e.symm
          · exact h3 q (by omega)
        · refine Wk.cut2 0 (Nat.le_of_ble_eq_true rfl) rfl ?_; repeat' (first | exact Fk.nil | refine Fk.pu ?_ ?_ | rfl | exact hup)
    · repeat' (first | with_reducible refine AW.seq ?_ | with_reducible refine thenQ_n ?_ | with_reducible refine thenQ_e ?_ | with_reducible refine blockQ_e0 ?_ | with_reducible refine retQ_r ?_ | with_reducible refine AW.ret ?_ | with_reducible refine AW.exit ?_ | (refine AW.cond rfl (fun hc => ?_) (fun hc => ?_) <;> (try simp only [decide_eq_true_eq, decide_eq_false_iff_not, Bool.not_eq_true', Bool.not_eq_false'] at hc) <;> (try contradiction)) | ((with_reducible refine AW.at_region 2 ?_); (refine A_cmp rfl rfl (c := false) _ _ _ _ _ rfl rfl rfl qF ?_ <;> try refine AL.nil ?_)) | ((with_reducible refine AW.at_region 7 ?_); (refine A_move rfl rfl _ (.inr rfl) (y := .t _) rfl ?_ <;> try refine AL.nil ?_)))
      all_goals first | (exfalso; omega) | (refine Fin.mkv (rs := _) Try.results123 (.cons (.tmp rfl) .nil) [] (by decide) rfl ?_ ?_ ?_ <;> repeat' (first | exact .nil | refine .cons rfl ?_ ?_ | refine .cons ?_ ?_ | refine .row ?_ | refine .rset ?_ | refine .box ?_ | exact .gone | refine .aggL ?_ | refine .tupL ?_ | refine .old rfl ?_ | refine .new rfl rfl rfl ?_ | exact .nl | exact .optr rfl | exact .nptr rfl rfl rfl | refine .t ?_ | exact .any _ | rfl))
      rw [ixI_none l x fun q hq => h3 q (by omega)]
theorem containsU_c (l : List Int) (x : Int) (hl : l.length ≤ 1152921504606846976) : Cd Try.prog 109 [.ln (l.map tU), u64 x] (bo (decide (x ∈ l))) [] := by
  have h1 := ixI_mem l x
  first | refine Cd.enter' Try.func109 rfl Try.ntmps109 rfl ?_ | refine Cio.enter' Try.func109 rfl Try.ntmps109 rfl (by simp only [List.length_cons, List.length_nil, Nat.zero_add, Nat.reduceAdd]; rfl) ?_ | refine C.enter' Try.func109 rfl Try.ntmps109 rfl (by simp only [List.length_cons, List.length_nil, Nat.zero_add, Nat.reduceAdd]; rfl) ?_
  repeat' (first | with_reducible refine AW.seq ?_ | with_reducible refine thenQ_n ?_ | with_reducible refine retQ_r ?_ | with_reducible refine AW.ret ?_ | ((with_reducible refine AW.at_region 0 ?_); (refine A_move rfl rfl _ (.inr rfl) (y := .t _) rfl ?_ <;> try refine AL.nil ?_)) | ((with_reducible refine AW.at_region 1 ?_); (refine A_move rfl rfl _ (.inl rfl) (y := .ln _) rfl ?_ <;> try (refine A_move rfl rfl _ (.inl rfl) (y := .t _) rfl ?_ <;> try (refine A_calld rfl rfl Try.func123 (by kernel_rfl) (by kernel_rfl) rfl (indexU_c l x hl) (by ((repeat (first | exact .nil | refine .cons ?_ ?_ | exact .t _ | exact .ln _)); done)) qL qU qU qN ?_ <;> try (refine A_cmp rfl rfl _ _ _ _ _ rfl rfl rfl rfl ?_ <;> try (refine A_move rfl rfl _ (.inr rfl) (y := .t _) rfl ?_ <;> try refine AL.nil ?_)))))))
  all_goals (refine Fin.mkv (rs := _) Try.results109 (.cons (.tmp rfl) .nil) [] (by decide) rfl ?_ ?_ ?_ <;> repeat' (first | exact .nil | refine .cons rfl ?_ ?_ | refine .cons ?_ ?_ | refine .row ?_ | refine .rset ?_ | refine .box ?_ | exact .gone | refine .aggL ?_ | refine .tupL ?_ | refine .old rfl ?_ | refine .new rfl rfl rfl ?_ | exact .nl | exact .optr rfl | exact .nptr rfl rfl rfl | refine .t ?_ | exact .any _ | rfl))
  all_goals (congr 2; rw [decide_eq_decide]; omega)
theorem named_c (i t : Int) (l : List Int) (hl : l.length ≤ 1152921504606846976) : Cd Try.prog 111 [.agg [i64 i, i64 t], .ln (l.map tU)] (bo (decide (word i t ∈ l))) [] := by
  have h1 : (l.map tU).length = l.length := List.length_map _
  first | refine Cd.enter' Try.func111 rfl Try.ntmps111 rfl ?_ | refine Cio.enter' Try.func111 rfl Try.ntmps111 rfl (by simp only [List.length_cons, List.length_nil, Nat.zero_add, Nat.reduceAdd]; rfl) ?_ | refine C.enter' Try.func111 rfl Try.ntmps111 rfl (by simp only [List.length_cons, List.length_nil, Nat.zero_add, Nat.reduceAdd]; rfl) ?_
  repeat' (first | with_reducible refine AW.seq ?_ | with_reducible refine AW.block ?_ | with_reducible refine thenQ_n ?_ | ((with_reducible refine AW.at_region 0 ?_); (refine A_box rfl rfl _ _ rfl rfl (.push qL qN) ?_ <;> try (refine A_move rfl rfl _ (.inr rfl) (y := .t _) rfl ?_ <;> try refine AL.nil ?_))) | ((with_reducible refine AW.at_region 1 ?_); (refine A_load_agg rfl rfl _ _ rfl Try.underlying50 rfl inf50 rfl rfl (us' := [_, _]) rfl rfl ?_ <;> try (refine A_calld rfl rfl Try.func77 (by kernel_rfl) (by kernel_rfl) rfl (wordR_c i t) (by ((repeat (first | exact .nil | refine .cons ?_ ?_ | exact .t _ | refine .aggL ?_)); done)) qL qU qU qN ?_ <;> try (refine A_move rfl rfl _ (.inr rfl) (y := .t _) rfl ?_ <;> try refine AL.nil ?_)))) | ((with_reducible refine AW.at_region 2 ?_); (refine A_move rfl rfl _ (.inl rfl) (y := .ln _) rfl ?_ <;> try (refine A_len rfl rfl _ _ rfl Try.underlying80 rfl ?_ <;> try (refine A_move rfl rfl _ (.inl rfl) (y := .t _) rfl ?_ <;> try refine AL.nil ?_)))))
  refine AW.loopP (fun (j : Nat) => j ≤ l.length ∧ ∀ q, q < j → l.getD q 0 ≠ word i t) (fun (j : Nat) => (pu (pu (pu (pu (pu (fun _ => .any) 4 (bo false)) 5 (u64 (word i t))) 10 (.ln (l.map tU))) 11 (i64 (l.map tU).length)) 12 (i64 j))) (fun (j : Nat) => []) (fun (j : Nat) => l.length - j) (0) ?_ ?_ ?_
  · exact ⟨Nat.zero_le _, fun q hq => by omega⟩
  · refine Wk.cut2 0 (Nat.le_of_ble_eq_true rfl) rfl ?_; repeat' (first | exact Fk.nil | refine Fk.pu ?_ ?_ | rfl | exact hup)
  · rintro j ⟨h2, h3⟩
    by_cases hj : j < l.length
    · obtain ⟨a, ha⟩ : ∃ a, l[j]? = some a := ⟨_, List.getElem?_eq_getElem hj⟩
      repeat' (first | with_reducible refine AW.seq ?_ | with_reducible refine AW.block ?_ | with_reducible refine thenQ_n ?_ | with_reducible refine thenQ_r ?_ | with_reducible refine blockQ_n ?_ | with_reducible refine blockQ_r ?_ | with_reducible refine retQ_r ?_ | with_reducible refine AW.ret ?_ | with_reducible refine AW.skip ?_ | (refine AW.cond rfl (fun hc => ?_) (fun hc => ?_) <;> (try simp only [decide_eq_true_eq, decide_eq_false_iff_not, Bool.not_eq_true', Bool.not_eq_false'] at hc) <;> (try contradiction)) | ((with_reducible refine AW.at_region 3 ?_); (refine A_cmp rfl rfl (c := true) _ _ _ _ _ rfl rfl rfl qT ?_ <;> try refine AL.nil ?_)) | ((with_reducible refine AW.at_region 4 ?_); (refine A_idx rfl rfl _ _ _ rfl Try.underlying80 inf91 (by decide) (by exact .inl rfl) rfl (by omega) _ (by with_reducible exact Int.toNat_natCast _) (by exact map_get (by assumption)) rfl (cs' := [_]) rfl ?_ <;> try (refine A_load_lp rfl rfl _ _ rfl Try.underlying91 rfl rfl rfl ?_ <;> try (refine A_move rfl rfl _ (.inr rfl) (y := .t _) rfl ?_ <;> try refine AL.nil ?_)))) | ((with_reducible refine AW.at_region 5 ?_); (refine A_move rfl rfl _ (.inl rfl) (y := .t _) rfl ?_ <;> try (refine A_move rfl rfl _ (.inl rfl) (y := .t _) rfl ?_ <;> try (refine A_cmp rfl rfl _ _ _ _ _ rfl rfl rfl rfl ?_ <;> try refine AL.nil ?_)))) | ((with_reducible refine AW.at_region 6 ?_); (refine A_move rfl rfl _ (.inr rfl) (y := .t _) rfl ?_ <;> try refine AL.nil ?_)) | ((with_reducible refine AW.at_region 7 ?_); (refine A_add rfl rfl _ _ _ _ rfl rfl rfl (by exact IntWalk.i64_in _ (by omega)) ?_ <;> try (refine A_move rfl rfl _ (.inl rfl) (y := .t _) rfl ?_ <;> try refine AL.nil ?_))))
      all_goals first | (exfalso; omega) | skip
      · refine Fin.mkv (rs := _) Try.results111 (.cons (.tmp rfl) .nil) [] (by decide) rfl ?_ ?_ ?_ <;> repeat' (first | exact .nil | refine .cons rfl ?_ ?_ | refine .cons ?_ ?_ | refine .row ?_ | refine .rset ?_ | refine .box ?_ | exact .gone | refine .aggL ?_ | refine .tupL ?_ | refine .old rfl ?_ | refine .new rfl rfl rfl ?_ | exact .nl | exact .optr rfl | exact .nptr rfl rfl rfl | refine .t ?_ | exact .any _ | rfl)
        rw [decide_eq_true (mem_getD.2 ⟨j, hj, by rw [List.getD_eq_getElem?_getD, ha, hc]; rfl⟩)]
      · refine ⟨j + 1, ⟨by omega, fun q hq => ?_⟩, by omega, ?_⟩
        · by_cases e : q = j
          · subst e; rw [List.getD_eq_getElem?_getD, ha]; exact hc
          · exact h3 q (by omega)
        · refine Wk.cut2 0 (Nat.le_of_ble_eq_true rfl) rfl ?_; repeat' (first | exact Fk.nil | refine Fk.pu ?_ ?_ | rfl | exact hup)
    · repeat' (first | with_reducible refine AW.seq ?_ | with_reducible refine thenQ_n ?_ | with_reducible refine thenQ_e ?_ | with_reducible refine blockQ_e0 ?_ | with_reducible refine retQ_r ?_ | with_reducible refine AW.ret ?_ | with_reducible refine AW.exit ?_ | (refine AW.cond rfl (fun hc => ?_) (fun hc => ?_) <;> (try simp only [decide_eq_true_eq, decide_eq_false_iff_not, Bool.not_eq_true', Bool.not_eq_false'] at hc) <;> (try contradiction)) | ((with_reducible refine AW.at_region 3 ?_); (refine A_cmp rfl rfl (c := false) _ _ _ _ _ rfl rfl rfl qF ?_ <;> try refine AL.nil ?_)) | ((with_reducible refine AW.at_region 8 ?_); (refine A_move rfl rfl _ (.inr rfl) (y := .t _) rfl ?_ <;> try refine AL.nil ?_)))
      all_goals first | (exfalso; omega) | (refine Fin.mkv (rs := _) Try.results111 (.cons (.tmp rfl) .nil) [] (by decide) rfl ?_ ?_ ?_ <;> repeat' (first | exact .nil | refine .cons rfl ?_ ?_ | refine .cons ?_ ?_ | refine .row ?_ | refine .rset ?_ | refine .box ?_ | exact .gone | refine .aggL ?_ | refine .tupL ?_ | refine .old rfl ?_ | refine .new rfl rfl rfl ?_ | exact .nl | exact .optr rfl | exact .nptr rfl rfl rfl | refine .t ?_ | exact .any _ | rfl))
      rw [decide_eq_false]
      rintro hm
      obtain ⟨q, hq, e⟩ := mem_getD.1 hm
      exact h3 q (by omega) e
def prS (l : List Int) (o : DOld) : Bool := !decide (word o.ref.index o.ref.tag ∈ l)
theorem byS1_c (l : List Int) (hl : l.length ≤ 1152921504606846976) (o : DOld) : Cd Try.prog 108 [.agg ((tOd o).map .t), .lp [.ln (l.map tU)]] (bo (prS l o)) [] := by
  obtain ⟨⟨a, b⟩, s⟩ := o
  first | refine Cd.enter' Try.func108 rfl Try.ntmps108 rfl ?_ | refine Cio.enter' Try.func108 rfl Try.ntmps108 rfl (by simp only [List.length_cons, List.length_nil, Nat.zero_add, Nat.reduceAdd]; rfl) ?_ | refine C.enter' Try.func108 rfl Try.ntmps108 rfl (by simp only [List.length_cons, List.length_nil, Nat.zero_add, Nat.reduceAdd]; rfl) ?_
  repeat' (first | with_reducible refine AW.seq ?_ | with_reducible refine thenQ_n ?_ | with_reducible refine retQ_r ?_ | with_reducible refine AW.ret ?_ | ((with_reducible refine AW.at_region 0 ?_); (refine A_box rfl rfl _ _ rfl rfl (.push qL qN) ?_ <;> try (refine A_move rfl rfl _ (.inr rfl) (y := .t _) rfl ?_ <;> try refine AL.nil ?_))) | (refine AW.at_draw 1 mixed 0 [[], [], [1], [1, 2], [0, 1, 2, 3], [0, 1, 2, 3, 4], [0, 1, 2, 3, 4, 5]] (by simp only [List.replicate_succ, List.replicate_zero, List.cons_append, List.nil_append]; rfl) ?_; (refine R_load_lp rfl rfl _ _ rfl Try.underlying80 rfl rfl rfl ?_; try (refine R_field rfl rfl _ _ _ rfl Try.underlying65 rfl inf50 (by decide) 0 rfl rfl ?_; try (refine R_load_agg rfl rfl _ _ rfl Try.underlying50 rfl inf50 rfl rfl (us' := [_, _]) rfl rfl ?_; try ((refine R_callA rfl rfl Try.func110 (by kernel_rfl) (by kernel_rfl) rfl (word_c a b) (acc := _) rfl (fun h' hh => by ((repeat (first | exact .nil | refine .cons ?_ ?_ | exact .t _ | refine .aggL ?_)); done)) ?_; refine ⟨0, _, _, _, rfl, qU, qU, (by (try simp only [setAll, List.zipIdx_cons, List.zipIdx_nil, List.map_cons, List.map_nil, List.set_cons_zero, List.set_cons_succ]); rfl), ?_⟩); try ((refine R_callA rfl rfl Try.func109 (by kernel_rfl) (by kernel_rfl) rfl (containsU_c l (word a b) hl) (acc := _) rfl (fun h' hh => by ((repeat (first | exact .nil | refine .cons ?_ ?_ | exact .t _ | exact .ln _)); done)) ?_; refine ⟨0, _, _, _, rfl, qU, qU, (by (try simp only [setAll, List.zipIdx_cons, List.zipIdx_nil, List.map_cons, List.map_nil, List.set_cons_zero, List.set_cons_succ]); rfl), ?_⟩); try (refine R_not rfl rfl _ _ rfl rfl ?_; try (refine R_move rfl rfl _ (.inr rfl) (y := .t _) rfl ?_; try refine RG.nil ⟨by kernel_rfl, ?_⟩)))))))))
  all_goals (refine Fin.mkv (rs := _) Try.results108 (.cons (.tmp rfl) .nil) [] (by decide) rfl ?_ ?_ ?_ <;> repeat' (first | exact .nil | refine .cons rfl ?_ ?_ | refine .cons ?_ ?_ | refine .row ?_ | refine .rset ?_ | refine .box ?_ | exact .gone | refine .aggL ?_ | refine .tupL ?_ | refine .old rfl ?_ | refine .new rfl rfl rfl ?_ | exact .nl | exact .optr rfl | exact .nptr rfl rfl rfl | refine .t ?_ | exact .any _ | rfl))
theorem byS_c (l : List Int) (hl : l.length ≤ 1152921504606846976) (i t sp : Int) (fr : List DSlot) (ol : List DOld) (hs : fr.length + ol.length ≤ 5864062014805) :
    Cd Try.prog 67 [.agg [i64 i, i64 t, .ln (fr.map tSl), .ln (ol.map tOd), i64 sp], .ln (l.map tU)] (.tup [.agg [i64 i, i64 t, .sl 0 0 (freed (prS l) fr ol).length, .sl 1 0 (kept (prS l) ol).length, i64 sp], i64 ((ol.length : Int) - (kept (prS l) ol).length)])
      [.row 0 90 2 ((freed (prS l) fr ol).map tSl), .row 0 65 3 ((kept (prS l) ol).map tOd)] := by
  have c1 := back_c 108 [] [.lp [.ln (l.map tU)]] (prS l) (fun o => ⟨_, _, [], [.lp [.ln (l.map tU)]], rfl, Try.func108, by kernel_rfl, by kernel_rfl, fun _ => .nil, fun _ => .cons (.lpL (.cons (.ln _) .nil)) .nil, byS1_c l hl o⟩) rfl i t sp fr ol hs
  first | refine Cd.enter' Try.func67 rfl Try.ntmps67 rfl ?_ | refine Cio.enter' Try.func67 rfl Try.ntmps67 rfl (by simp only [List.length_cons, List.length_nil, Nat.zero_add, Nat.reduceAdd]; rfl) ?_ | refine C.enter' Try.func67 rfl Try.ntmps67 rfl (by simp only [List.length_cons, List.length_nil, Nat.zero_add, Nat.reduceAdd]; rfl) ?_
  repeat' (first | with_reducible refine AW.seq ?_ | with_reducible refine thenQ_n ?_ | with_reducible refine retQ_r ?_ | with_reducible refine AW.ret ?_ | ((with_reducible refine AW.at_region 0 ?_); (refine A_box rfl rfl _ _ rfl rfl (.push qL qN) ?_ <;> try (refine A_box rfl rfl _ _ rfl rfl (.push qL qN) ?_ <;> try (refine A_alloc rfl rfl _ rfl inf54 (cs := [.t (.v (.int .i64 0)), .t (.v (.int .i64 0)), AV.nl, AV.nl, .t (.v (.int .i64 0))]) rfl (.push qL qN) ?_ <;> try (refine A_move rfl rfl _ (.inr rfl) (y := .t _) rfl ?_ <;> try refine AL.nil ?_))))) | ((with_reducible refine AW.at_region 1 ?_); (refine A_load_agg rfl rfl _ _ rfl Try.underlying54 rfl inf54 rfl rfl (us' := [_, _, _, _, _]) rfl rfl ?_ <;> try (refine A_fn rfl rfl _ _ _ rfl .nil (.cons rfl .nil) ?_ <;> try (refine A_calld rfl rfl Try.func51 (by kernel_rfl) (by kernel_rfl) rfl (c1) (by ((repeat (first | exact .nil | refine .cons ?_ ?_ | exact .t _ | refine .aggL ?_ | exact .ln _ | refine .boxL rfl rfl rfl ?_ | refine .fnL ?_ ?_)); done)) qL qU qU qN ?_ <;> try (refine A_extract rfl rfl _ _ rfl rfl rfl ?_ <;> try (refine A_extract rfl rfl _ _ rfl rfl rfl ?_ <;> try (refine A_store rfl rfl _ _ _ rfl inf54 rfl rfl rfl rfl (Nat.le_of_ble_eq_true rfl) qN qN ?_ <;> try (refine A_move rfl rfl _ (.inr rfl) (y := .t _) rfl ?_ <;> try refine AL.nil ?_)))))))))
  all_goals (refine Fin.mkv (rs := _) Try.results67 (.cons (.agg rfl rfl Try.underlying54 rfl inf54 (us := [_, _, _, _, _]) rfl rfl) (.cons (.tmp rfl) .nil)) [3, 4] (by decide) rfl ?_ ?_ ?_ <;> repeat' (first | exact .nil | refine .cons rfl ?_ ?_ | refine .cons ?_ ?_ | refine .row ?_ | refine .rset ?_ | refine .box ?_ | exact .gone | refine .aggL ?_ | refine .tupL ?_ | refine .old rfl ?_ | refine .new rfl rfl rfl ?_ | exact .nl | exact .optr rfl | exact .nptr rfl rfl rfl | refine .t ?_ | exact .any _ | rfl))
end Go.Proofs.Ytdneipibbdadcaa
