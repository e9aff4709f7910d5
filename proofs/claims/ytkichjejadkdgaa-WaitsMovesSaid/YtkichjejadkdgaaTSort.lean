/- Stable sorts: what is inserted, and slices' insertion sort. -/
import Derived.Test.YtkichjejadkdgaaTEnc
import Derived.Test.YtkichjejadkdgaaTCallv
namespace Go.Proofs.Ytkichjejadkdgaa
set_option linter.unusedVariables false
set_option linter.unusedSimpArgs false
set_option linter.unnecessarySimpa false
open Go.RowKit
attribute [local irreducible] AL AW RG Fin C Cd Cio thenQ blockQ retQ
set_option maxRecDepth 100000
def insS (key : Int → Int) (x : Int) : List Int → List Int
  | [] => [x]
  | y :: s => if key x < key y then x :: y :: s else y :: insS key x s
def isort (key : Int → Int) (l : List Int) : List Int := l.foldl (fun s x => insS key x s) []
def srtd (key : Int → Int) (l : List Int) : Prop := l.Pairwise fun a b => key a ≤ key b
theorem insS_mem {key : Int → Int} {x z : Int} : ∀ {s : List Int}, z ∈ insS key x s ↔ z = x ∨ z ∈ s
  | [] => by simp [insS]
  | y :: s => by
    unfold insS
    split
    · simp
    · simp only [List.mem_cons, insS_mem (s := s)]
      constructor
      · rintro (h | h | h) <;> simp [h]
      · rintro (h | h | h) <;> simp [h]
theorem insS_len {key : Int → Int} {x : Int} : ∀ {s : List Int}, (insS key x s).length = s.length + 1
  | [] => rfl
  | y :: s => by
    unfold insS
    split
    · simp
    · simp [insS_len (s := s)]
theorem insS_srtd {key : Int → Int} {x : Int} : ∀ {s : List Int}, srtd key s → srtd key (insS key x s)
  | [], _ => by simp [insS, srtd]
  | y :: s, h => by
    obtain ⟨h1, h2⟩ := List.pairwise_cons.1 h
    unfold insS
    split
    · rename_i hx
      refine List.pairwise_cons.2 ⟨fun z hz => ?_, h⟩
      rcases List.mem_cons.1 hz with rfl | hz
      · omega
      · have := h1 z hz; omega
    · rename_i hx
      refine List.pairwise_cons.2 ⟨fun z hz => ?_, insS_srtd h2⟩
      rcases insS_mem.1 hz with rfl | hz
      · omega
      · exact h1 z hz
theorem insS_at {key : Int → Int} {x : Int} : ∀ {S1 S2 : List Int}, (∀ y ∈ S1, ¬ key x < key y) → (∀ y ∈ S2, key x < key y) → insS key x (S1 ++ S2) = S1 ++ x :: S2
  | [], [], _, _ => rfl
  | [], y :: s, _, h => by simp only [List.nil_append]; unfold insS; rw [if_pos (h y (by simp))]
  | y :: s, S2, h, h2 => by
    simp only [List.cons_append]; unfold insS
    rw [if_neg (h y (by simp)), insS_at (fun z hz => h z (by simp [hz])) h2]
theorem isort_next {key : Int → Int} {l : List Int} {x : Int} : isort key (l ++ [x]) = insS key x (isort key l) := by unfold isort; rw [List.foldl_append]; rfl
theorem isort_all {key : Int → Int} (l : List Int) : srtd key (isort key l) ∧ (isort key l).length = l.length ∧ ∀ z, z ∈ isort key l ↔ z ∈ l := by
  unfold isort
  suffices h : ∀ (l s : List Int), srtd key s → srtd key (l.foldl (fun s x => insS key x s) s) ∧ (l.foldl (fun s x => insS key x s) s).length = l.length + s.length ∧ ∀ z, z ∈ l.foldl (fun s x => insS key x s) s ↔ z ∈ l ∨ z ∈ s by
    obtain ⟨h1, h2, h3⟩ := h l [] List.Pairwise.nil
    exact ⟨h1, by simpa using h2, fun z => by simpa using h3 z⟩
  intro l
  induction l with
  | nil => intro s hs; exact ⟨hs, by simp, fun z => by simp⟩
  | cons x l ih =>
    intro s hs
    obtain ⟨h1, h2, h3⟩ := ih (insS key x s) (insS_srtd hs)
    refine ⟨h1, by rw [List.foldl_cons, h2, insS_len]; simp; omega, fun z => ?_⟩
    rw [List.foldl_cons, h3, insS_mem, List.mem_cons]
    constructor
    · rintro (h | h | h) <;> simp [h]
    · rintro ((h | h) | h) <;> simp [h]
theorem isort_mem {key : Int → Int} {l : List Int} {z : Int} : z ∈ isort key l ↔ z ∈ l := (isort_all l).2.2 z
theorem isort_len {key : Int → Int} (l : List Int) : (isort key l).length = l.length := (isort_all l).2.1
/-- a row whose part from a to b is sorted -/
def srt (key : Int → Int) (l : List Int) (a b : Nat) : List Int := l.take a ++ isort key ((l.drop a).take (b - a)) ++ l.drop b
theorem srt_len {key : Int → Int} {l : List Int} {a b : Nat} (h : a ≤ b) (hb : b ≤ l.length) : (srt key l a b).length = l.length := by
  unfold srt; simp only [List.length_append, List.length_take, isort_len, List.length_drop]; omega
theorem srt_same {key : Int → Int} {l : List Int} {a : Nat} : srt key l a a = l := by
  unfold srt; simp [isort]
theorem seg_next {l : List Int} {a i : Nat} {x : Int} (h : a ≤ i) (hx : l[i]? = some x) : (l.drop a).take (i + 1 - a) = (l.drop a).take (i - a) ++ [x] := by
  rw [show i + 1 - a = (i - a) + 1 by omega, List.take_add_one, List.getElem?_drop, show a + (i - a) = i by omega, hx]; rfl
theorem drop_next {l : List Int} {i : Nat} {x : Int} (hx : l[i]? = some x) : l.drop i = x :: l.drop (i + 1) := by
  obtain ⟨h, e⟩ := List.getElem?_eq_some_iff.1 hx
  rw [List.drop_eq_getElem_cons h, e]
theorem srt_one {key : Int → Int} {l : List Int} {a : Nat} (h : a < l.length) : srt key l a (a + 1) = l := by
  obtain ⟨x, hx⟩ : ∃ x, l[a]? = some x := ⟨_, List.getElem?_eq_getElem h⟩
  unfold srt
  rw [seg_next (Nat.le_refl _) hx, Nat.sub_self, List.take_zero, isort_next]
  show l.take a ++ [x] ++ l.drop (a + 1) = l
  rw [List.append_assoc, List.singleton_append, ← drop_next hx, List.take_append_drop]
theorem swap_at {P R : List Int} {x y : Int} {i j : Nat} (hj : j = P.length + 1) (hi : i = P.length) : ((P ++ y :: x :: R).set j y).set i x = P ++ x :: y :: R := by
  subst hj hi
  rw [List.set_append, if_neg (by omega), show P.length + 1 - P.length = 1 by omega, List.set_append, if_neg (by omega), Nat.sub_self]; rfl
/-- what a function value tells of two numbers of a row -/
def CmpV (g : AV) (key : Int → Int) (l : List Int) : Prop := ∀ x ∈ l, ∀ y ∈ l, ∃ c : Int, (c < 0 ↔ key x < key y) ∧ CV Try.prog g [i64 x, i64 y] (i64 c) []
set_option maxHeartbeats 16000000 in
theorem insert_c (f : FuncId) (fi cap : List AV) (key : Int → Int) (l : List Int) (k a b : Nat) (hab : a ≤ b) (hb : b ≤ l.length) (hl : l.length ≤ 1152921504606846976) (hg : CmpV (.fn (.func f) fi cap) key l)
    (hup : upB (keepG 1) (.fn (.func f) fi cap) = .fn (.func f) fi cap) :
    Cio Try.prog 171 [.sl 0 k l.length, i64 a, i64 b, .fn (.func f) fi cap] [.row k 3 1 (l.map tI)] (.tup []) [.row k 3 1 ((srt key l a b).map tI)] := by
  first | refine Cd.enter' Try.func171 rfl Try.ntmps171 rfl ?_ | refine Cio.enter' Try.func171 rfl Try.ntmps171 rfl (by simp only [List.length_cons, List.length_nil, Nat.zero_add, Nat.reduceAdd]; rfl) ?_ | refine C.enter' Try.func171 rfl Try.ntmps171 rfl (by simp only [List.length_cons, List.length_nil, Nat.zero_add, Nat.reduceAdd]; rfl) ?_
  repeat' (first | with_reducible refine AW.seq ?_ | with_reducible refine AW.block ?_ | with_reducible refine thenQ_n ?_ | ((with_reducible refine AW.at_region 0 ?_); (refine A_move rfl rfl _ (.inl rfl) (y := .t _) rfl ?_ <;> try (refine A_add rfl rfl _ _ _ _ rfl rfl rfl (by exact IntWalk.i64_in _ (by omega)) ?_ <;> try (refine A_move rfl rfl _ (.inr rfl) (y := .t _) rfl ?_ <;> try refine AL.nil ?_)))))
  refine AW.loopP (fun (x : Nat × List Int) => (b ≤ x.1 ∧ x.1 ≤ b + 1 ∧ x.2 = srt key l a b) ∨ (a < x.1 ∧ x.1 ≤ b ∧ x.2 = srt key l a x.1)) (fun (x : Nat × List Int) => (pu (pu (pu (pu (pu (fun _ => .any) 0 (.sl 0 k l.length)) 1 (i64 a)) 2 (i64 b)) 3 (.fn (.func f) fi cap)) 8 (i64 x.1))) (fun (x : Nat × List Int) => [.row k 3 1 (x.2.map tI)]) (fun (x : Nat × List Int) => b + 1 - x.1) ((a + 1, l)) ?_ ?_ ?_
  · by_cases h : a < b
    · exact .inr ⟨by dsimp only; omega, by dsimp only; omega, (srt_one (l := l) (by omega)).symm⟩
    · obtain rfl : a = b := by omega
      exact .inl ⟨by dsimp only; omega, by dsimp only; omega, srt_same.symm⟩
  · refine Wk.cut2 1 (Nat.le_of_ble_eq_true rfl) rfl ?_; repeat' (first | exact Fk.nil | refine Fk.pu ?_ ?_ | rfl | exact hup)
  · rintro ⟨i, M⟩ hi
    dsimp only at hi ⊢
    by_cases hib : i < b
    · obtain ⟨h1, h2, h3⟩ : a < i ∧ i ≤ b ∧ M = srt key l a i := by
        rcases hi with hi | hi
        · omega
        · exact hi
      obtain ⟨x, hx⟩ : ∃ x, l[i]? = some x := ⟨_, List.getElem?_eq_getElem (by omega)⟩
      obtain ⟨S, hS⟩ : ∃ S, isort key ((l.drop a).take (i - a)) = S := ⟨_, rfl⟩
      have hSl : S.length = i - a := by rw [← hS, isort_len, List.length_take, List.length_drop]; omega
      have hSs : srtd key S := by rw [← hS]; exact (isort_all _).1
      have hSm : ∀ z ∈ S, z ∈ l := fun z hz => by rw [← hS] at hz; exact List.mem_of_mem_drop (List.mem_of_mem_take (isort_mem.1 hz))
      have hxl : x ∈ l := List.mem_of_getElem? hx
      have hnew : srt key l a (i + 1) = l.take a ++ insS key x S ++ l.drop (i + 1) := by unfold srt; rw [seg_next (by omega) hx, isort_next, hS]
      have hM : M = l.take a ++ S ++ x :: l.drop (i + 1) := by rw [h3, ← drop_next hx, ← hS]; rfl
      clear h3 hi
      have hta : (l.take a).length = a := by rw [List.length_take]; omega
      repeat' (first | with_reducible refine AW.seq ?_ | with_reducible refine AW.block ?_ | with_reducible refine thenQ_n ?_ | with_reducible refine AW.skip ?_ | (refine AW.cond rfl (fun hc => ?_) (fun hc => ?_) <;> (try simp only [decide_eq_true_eq, decide_eq_false_iff_not, Bool.not_eq_true', Bool.not_eq_false'] at hc) <;> (try contradiction)) | ((with_reducible refine AW.at_region 1 ?_); (refine A_move rfl rfl _ (.inl rfl) (y := .t _) rfl ?_ <;> try (refine A_move rfl rfl _ (.inl rfl) (y := .t _) rfl ?_ <;> try (refine A_cmp rfl rfl (c := true) _ _ _ _ _ rfl rfl rfl qT ?_ <;> try refine AL.nil ?_)))) | ((with_reducible refine AW.at_region 3 ?_); (refine A_move rfl rfl _ (.inl rfl) (y := .t _) rfl ?_ <;> try (refine A_move rfl rfl _ (.inr rfl) (y := .t _) rfl ?_ <;> try refine AL.nil ?_))))
      all_goals first | (exfalso; omega) | skip
      refine AW.loopP (fun (y : Int × List Int × List Int × List Int) => y.1 = a + y.2.2.1.length ∧ y.2.2.1 ++ y.2.2.2 = S ∧ (∀ z ∈ y.2.2.2, key x < key z) ∧ y.2.1 = l.take a ++ y.2.2.1 ++ x :: (y.2.2.2 ++ l.drop (i + 1))) (fun (y : Int × List Int × List Int × List Int) => (pu (pu (pu (pu (pu (pu (fun _ => .any) 0 (.sl 0 k l.length)) 1 (i64 a)) 2 (i64 b)) 3 (.fn (.func f) fi cap)) 8 (i64 i)) 9 (i64 y.1))) (fun (y : Int × List Int × List Int × List Int) => [.row k 3 1 (y.2.1.map tI)]) (fun (y : Int × List Int × List Int × List Int) => y.2.2.1.length) (((i : Int), M, S, [])) ?_ ?_ ?_
      · exact ⟨by dsimp only; omega, by simp, by simp, by simpa using hM⟩
      · refine Wk.cut2 1 (Nat.le_of_ble_eq_true rfl) rfl ?_; repeat' (first | exact Fk.nil | refine Fk.pu ?_ ?_ | rfl | exact hup)
      · rintro ⟨j, M, S1, S2⟩ ⟨h4, h5, h6, h7⟩
        dsimp only at h4 h5 h6 h7 ⊢
        have hS12 : S1.length + S2.length = i - a := by rw [← hSl, ← h5, List.length_append]
        have hMl : M.length = l.length := by rw [h7]; simp only [List.length_append, List.length_cons, List.length_drop, hta]; omega
        have hMt : (M.map tI).length = l.length := by rw [List.length_map, hMl]
        have hP : (l.take a ++ S1).length = j.toNat := by rw [List.length_append, hta]; omega
        have hxj : M[j.toNat]? = some x := by rw [h7, List.getElem?_append_right (by omega), hP, Nat.sub_self]; rfl
        by_cases hS1 : S1 = []
        · subst hS1
          simp only [List.length_nil] at h4 hS12
          have hn2 : srt key l a (i + 1) = M := by rw [hnew, ← h5, insS_at (fun _ h => by simp at h) h6, h7]; simp
          repeat' (first | with_reducible refine AW.seq ?_ | with_reducible refine thenQ_n ?_ | with_reducible refine thenQ_e ?_ | with_reducible refine blockQ_n ?_ | with_reducible refine blockQ_e0 ?_ | with_reducible refine AW.exit ?_ | (refine AW.cond rfl (fun hc => ?_) (fun hc => ?_) <;> (try simp only [decide_eq_true_eq, decide_eq_false_iff_not, Bool.not_eq_true', Bool.not_eq_false'] at hc) <;> (try contradiction)) | (refine AW.at_draw 4 mixed 2 [[], [], [0, 1], [0, 1, 2], [0, 1, 2, 3], [0, 1, 2, 3], [0, 1, 2, 3], [0, 1, 2, 3, 5, 6], [0, 1, 2, 3, 5, 6, 7], [0, 1, 2, 3], [0, 1, 2, 3], [0, 1, 2, 3, 10], [0, 1, 2, 3, 9, 10, 11], [0, 1, 2, 3, 9, 10, 11, 12], [0, 1, 2, 3, 4, 5, 6, 7, 8, 9, 10, 11, 12, 13], [0, 1, 2, 3, 4, 5, 6, 7, 8, 9, 10, 11, 12, 13, 14], [0, 1, 2, 3, 4, 5, 6, 7, 8, 9, 10, 11, 12, 13, 14, 15]] (by simp only [List.replicate_succ, List.replicate_zero, List.cons_append, List.nil_append]; rfl) ?_; (refine R_move rfl rfl _ (.inl rfl) (y := .t _) rfl ?_; try (refine R_move rfl rfl _ (.inl rfl) (y := .t _) rfl ?_; try (refine R_cmp rfl rfl (c := false) _ _ _ _ _ rfl rfl rfl qF ?_; try (refine R_move rfl rfl _ (.inl rfl) (y := .t _) rfl ?_; try (refine R_skip rfl rfl ?_; try (refine R_skip rfl rfl ?_; try (refine R_skip rfl rfl ?_; try (refine R_skip rfl rfl ?_; try (refine R_skip rfl rfl ?_; try (refine R_skip rfl rfl ?_; try (refine R_skip rfl rfl ?_; try (refine R_skip rfl rfl ?_; try (refine R_skip rfl rfl ?_; try (refine R_skip rfl rfl ?_; try (refine R_skip rfl rfl ?_; try (refine R_skip rfl rfl ?_; try (refine R_pick rfl rfl _ _ _ rfl rfl rfl rfl rfl ?_; try refine RG.nil ⟨by kernel_rfl, ?_⟩)))))))))))))))))) | ((with_reducible refine AW.at_region 2 ?_); (refine A_move rfl rfl _ (.inl rfl) (y := .t _) rfl ?_ <;> try (refine A_add rfl rfl _ _ _ _ rfl rfl rfl (by exact IntWalk.i64_in _ (by omega)) ?_ <;> try (refine A_move rfl rfl _ (.inr rfl) (y := .t _) rfl ?_ <;> try refine AL.nil ?_)))))
          all_goals first | (exfalso; omega) | skip
          refine ⟨(i + 1, M), .inr ⟨by dsimp only; omega, by dsimp only; omega, hn2.symm⟩, by dsimp only; omega, ?_⟩
          refine Wk.cut2 1 (Nat.le_of_ble_eq_true rfl) rfl ?_; repeat' (first | exact Fk.nil | refine Fk.pu ?_ ?_ | rfl | exact hup)
        · obtain ⟨S0, y, rfl⟩ : ∃ S0 y, S1 = S0 ++ [y] := ⟨_, _, (List.dropLast_concat_getLast hS1).symm⟩
          have hyS : y ∈ S := by rw [← h5]; simp
          have hyl := hSm y hyS
          simp only [List.length_append, List.length_singleton] at h4 hS12
          have hP0 : (l.take a ++ S0).length = (j - 1).toNat := by rw [List.length_append, hta]; omega
          have h8 : M = (l.take a ++ S0) ++ y :: x :: (S2 ++ l.drop (i + 1)) := by rw [h7]; simp
          have hyj : M[(j - 1).toNat]? = some y := by rw [h8, List.getElem?_append_right (by omega), hP0, Nat.sub_self]; rfl
          obtain ⟨c, hc0, hcv⟩ := hg x hxl y hyl
          by_cases hk : key x < key y
          · have hcn := hc0.2 hk
            have hsw : (M.set j.toNat y).set (j - 1).toNat x = l.take a ++ S0 ++ x :: y :: (S2 ++ l.drop (i + 1)) := by rw [h8]; exact swap_at (by omega) (by omega)
            have hyj2 : (M.set j.toNat y)[(j - 1).toNat]? = some y := by rw [List.getElem?_set_ne (by omega), hyj]
            repeat' (first | with_reducible refine AW.seq ?_ | with_reducible refine AW.block ?_ | with_reducible refine thenQ_n ?_ | with_reducible refine blockQ_n ?_ | with_reducible refine AW.skip ?_ | (refine AW.cond rfl (fun hc => ?_) (fun hc => ?_) <;> (try simp only [decide_eq_true_eq, decide_eq_false_iff_not, Bool.not_eq_true', Bool.not_eq_false'] at hc) <;> (try contradiction)) | (refine AW.at_draw 4 mixed 2 [[], [], [0, 1], [0, 1, 2], [0, 1, 2, 3], [0, 1, 2, 3], [0, 1, 2, 3], [0, 1, 2, 3, 5, 6], [0, 1, 2, 3, 5, 6, 7], [0, 1, 2, 3], [0, 1, 2, 3], [0, 1, 2, 3, 10], [0, 1, 2, 3, 9, 10, 11], [0, 1, 2, 3, 9, 10, 11, 12], [0, 1, 2, 3, 4, 5, 6, 7, 8, 9, 10, 11, 12, 13], [0, 1, 2, 3, 4, 5, 6, 7, 8, 9, 10, 11, 12, 13, 14], [0, 1, 2, 3, 4, 5, 6, 7, 8, 9, 10, 11, 12, 13, 14, 15]] (by simp only [List.replicate_succ, List.replicate_zero, List.cons_append, List.nil_append]; rfl) ?_; (refine R_move rfl rfl _ (.inl rfl) (y := .t _) rfl ?_; try (refine R_move rfl rfl _ (.inl rfl) (y := .t _) rfl ?_; try (refine R_cmp rfl rfl (c := true) _ _ _ _ _ rfl rfl rfl qT ?_; try (refine R_move rfl rfl _ (.inl rfl) (y := .t _) rfl ?_; try (refine R_move rfl rfl _ (.inl rfl) (y := .fn _ _ _) rfl ?_; try (refine R_move rfl rfl _ (.inl rfl) (y := .sl _ _ _) rfl ?_; try (refine R_move rfl rfl _ (.inl rfl) (y := .t _) rfl ?_; try (refine R_idx_sl rfl rfl _ _ _ rfl Try.underlying44 inf3 rfl rfl (by (simp; omega)) rfl (by omega) _ (by exact rfl) (by omega) ?_; try (refine R_load_rp rfl rfl _ _ rfl Try.underlying3 rfl rfl rfl (by exact map_get (by assumption)) rfl ?_; try (refine R_move rfl rfl _ (.inl rfl) (y := .sl _ _ _) rfl ?_; try (refine R_move rfl rfl _ (.inl rfl) (y := .t _) rfl ?_; try (refine R_sub rfl rfl _ _ _ _ rfl rfl rfl (by exact IntWalk.i64_in _ (by omega)) ?_; try (refine R_idx_sl rfl rfl _ _ _ rfl Try.underlying44 inf3 rfl rfl (by (simp; omega)) rfl (by omega) _ (by exact rfl) (by omega) ?_; try (refine R_load_rp rfl rfl _ _ rfl Try.underlying3 rfl rfl rfl (by exact map_get (by assumption)) rfl ?_; try ((refine R_callv rfl rfl rfl rfl (hcv) (acc := _) rfl (fun h' hh => by ((repeat (first | exact .nil | refine .cons ?_ ?_ | exact .t _)); (first | done | fail))) rfl rfl ?_); try (refine R_cmp rfl rfl (c := true) _ _ _ _ _ rfl rfl rfl qT ?_; try (refine R_pick rfl rfl _ _ _ rfl rfl rfl rfl rfl ?_; try refine RG.nil ⟨by kernel_rfl, ?_⟩)))))))))))))))))) | (refine AW.at_draw 6 mixed 0 [[], [], [], [], [3], [], [], [6], [5, 6, 7], [5, 6, 7, 8], [], [], [10, 11], [10, 11, 12], [0, 1, 5, 6, 7, 8, 9, 10, 11, 12, 13], [0, 1, 5, 6, 7, 8, 9, 10, 11, 12, 13, 14], [0, 1, 2, 3, 4, 5, 6, 7, 8, 9, 10, 11, 12, 13, 14, 15], [0, 1, 2, 3, 4, 5, 6, 7, 8, 9, 10, 11, 12, 13, 14, 15, 16]] (by simp only [List.replicate_succ, List.replicate_zero, List.cons_append, List.nil_append]; rfl) ?_; (refine R_move rfl rfl _ (.inl rfl) (y := .sl _ _ _) rfl ?_; try (refine R_move rfl rfl _ (.inl rfl) (y := .t _) rfl ?_; try (refine R_move rfl rfl _ (.inl rfl) (y := .sl _ _ _) rfl ?_; try (refine R_move rfl rfl _ (.inl rfl) (y := .t _) rfl ?_; try (refine R_sub rfl rfl _ _ _ _ rfl rfl rfl (by exact IntWalk.i64_in _ (by omega)) ?_; try (refine R_move rfl rfl _ (.inl rfl) (y := .sl _ _ _) rfl ?_; try (refine R_move rfl rfl _ (.inl rfl) (y := .t _) rfl ?_; try (refine R_sub rfl rfl _ _ _ _ rfl rfl rfl (by exact IntWalk.i64_in _ (by omega)) ?_; try (refine R_idx_sl rfl rfl _ _ _ rfl Try.underlying44 inf3 rfl rfl (by (simp; omega)) rfl (by omega) _ (by exact rfl) (by omega) ?_; try (refine R_load_rp rfl rfl _ _ rfl Try.underlying3 rfl rfl rfl (by exact map_get (by assumption)) rfl ?_; try (refine R_move rfl rfl _ (.inl rfl) (y := .sl _ _ _) rfl ?_; try (refine R_move rfl rfl _ (.inl rfl) (y := .t _) rfl ?_; try (refine R_idx_sl rfl rfl _ _ _ rfl Try.underlying44 inf3 rfl rfl (by (simp; omega)) rfl (by omega) _ (by exact rfl) (by omega) ?_; try (refine R_load_rp rfl rfl _ _ rfl Try.underlying3 rfl rfl rfl (by exact map_get (by assumption)) rfl ?_; try (refine R_idx_sl rfl rfl _ _ _ rfl Try.underlying44 inf3 rfl rfl (by (simp; omega)) rfl (by omega) _ (by exact rfl) (by omega) ?_; try (refine R_store_rp rfl rfl _ _ _ rfl inf3 (by decide) rfl rfl (by exact map_get (by assumption)) rfl rfl rfl (Nat.le_of_ble_eq_true rfl) (by exact map_set (f := tI) (x := _)) qN ?_; try (refine R_idx_sl rfl rfl _ _ _ rfl Try.underlying44 inf3 rfl rfl (by (simp; omega)) rfl (by omega) _ (by exact rfl) (by omega) ?_; try (refine R_store_rp rfl rfl _ _ _ rfl inf3 (by decide) rfl rfl (by exact map_get (by assumption)) rfl rfl rfl (Nat.le_of_ble_eq_true rfl) (by exact map_set (f := tI) (x := _)) qN ?_; try refine RG.nil ⟨by kernel_rfl, ?_⟩))))))))))))))))))) | ((with_reducible refine AW.at_region 5 ?_); (refine A_move rfl rfl _ (.inl rfl) (y := .t _) rfl ?_ <;> try (refine A_sub rfl rfl _ _ _ _ rfl rfl rfl (by exact IntWalk.i64_in _ (by omega)) ?_ <;> try (refine A_move rfl rfl _ (.inr rfl) (y := .t _) rfl ?_ <;> try refine AL.nil ?_)))))
            all_goals first | (exfalso; omega) | skip
            rw [hsw]
            refine ⟨(j - 1, l.take a ++ S0 ++ x :: y :: (S2 ++ l.drop (i + 1)), S0, y :: S2), ⟨by dsimp only; omega, by rw [← h5]; simp, fun z hz => ?_, rfl⟩, by simp, ?_⟩
            · rcases List.mem_cons.1 hz with rfl | hz
              · exact hk
              · exact h6 z hz
            · refine Wk.cut2 1 (Nat.le_of_ble_eq_true rfl) rfl ?_; repeat' (first | exact Fk.nil | refine Fk.pu ?_ ?_ | rfl | exact hup)
          · have hcn : ¬ c < 0 := fun h => hk (hc0.1 h)
            have hn2 : srt key l a (i + 1) = M := by
              rw [hnew, ← h5, insS_at (fun z hz => ?_) h6, h7]
              · simp
              · rw [← h5, List.append_assoc] at hSs
                have hp := (List.pairwise_append.1 hSs).2.2
                rcases List.mem_append.1 hz with hz | hz
                · have := hp z hz y (by simp); omega
                · simp at hz; subst hz; exact hk
            repeat' (first | with_reducible refine AW.seq ?_ | with_reducible refine thenQ_n ?_ | with_reducible refine thenQ_e ?_ | with_reducible refine blockQ_n ?_ | with_reducible refine blockQ_e0 ?_ | with_reducible refine AW.exit ?_ | (refine AW.cond rfl (fun hc => ?_) (fun hc => ?_) <;> (try simp only [decide_eq_true_eq, decide_eq_false_iff_not, Bool.not_eq_true', Bool.not_eq_false'] at hc) <;> (try contradiction)) | (refine AW.at_draw 4 mixed 2 [[], [], [0, 1], [0, 1, 2], [0, 1, 2, 3], [0, 1, 2, 3], [0, 1, 2, 3], [0, 1, 2, 3, 5, 6], [0, 1, 2, 3, 5, 6, 7], [0, 1, 2, 3], [0, 1, 2, 3], [0, 1, 2, 3, 10], [0, 1, 2, 3, 9, 10, 11], [0, 1, 2, 3, 9, 10, 11, 12], [0, 1, 2, 3, 4, 5, 6, 7, 8, 9, 10, 11, 12, 13], [0, 1, 2, 3, 4, 5, 6, 7, 8, 9, 10, 11, 12, 13, 14], [0, 1, 2, 3, 4, 5, 6, 7, 8, 9, 10, 11, 12, 13, 14, 15]] (by simp only [List.replicate_succ, List.replicate_zero, List.cons_append, List.nil_append]; rfl) ?_; (refine R_move rfl rfl _ (.inl rfl) (y := .t _) rfl ?_; try (refine R_move rfl rfl _ (.inl rfl) (y := .t _) rfl ?_; try (refine R_cmp rfl rfl (c := true) _ _ _ _ _ rfl rfl rfl qT ?_; try (refine R_move rfl rfl _ (.inl rfl) (y := .t _) rfl ?_; try (refine R_move rfl rfl _ (.inl rfl) (y := .fn _ _ _) rfl ?_; try (refine R_move rfl rfl _ (.inl rfl) (y := .sl _ _ _) rfl ?_; try (refine R_move rfl rfl _ (.inl rfl) (y := .t _) rfl ?_; try (refine R_idx_sl rfl rfl _ _ _ rfl Try.underlying44 inf3 rfl rfl (by (simp; omega)) rfl (by omega) _ (by exact rfl) (by omega) ?_; try (refine R_load_rp rfl rfl _ _ rfl Try.underlying3 rfl rfl rfl (by exact map_get (by assumption)) rfl ?_; try (refine R_move rfl rfl _ (.inl rfl) (y := .sl _ _ _) rfl ?_; try (refine R_move rfl rfl _ (.inl rfl) (y := .t _) rfl ?_; try (refine R_sub rfl rfl _ _ _ _ rfl rfl rfl (by exact IntWalk.i64_in _ (by omega)) ?_; try (refine R_idx_sl rfl rfl _ _ _ rfl Try.underlying44 inf3 rfl rfl (by (simp; omega)) rfl (by omega) _ (by exact rfl) (by omega) ?_; try (refine R_load_rp rfl rfl _ _ rfl Try.underlying3 rfl rfl rfl (by exact map_get (by assumption)) rfl ?_; try ((refine R_callv rfl rfl rfl rfl (hcv) (acc := _) rfl (fun h' hh => by ((repeat (first | exact .nil | refine .cons ?_ ?_ | exact .t _)); (first | done | fail))) rfl rfl ?_); try (refine R_cmp rfl rfl (c := false) _ _ _ _ _ rfl rfl rfl qF ?_; try (refine R_pick rfl rfl _ _ _ rfl rfl rfl rfl rfl ?_; try refine RG.nil ⟨by kernel_rfl, ?_⟩)))))))))))))))))) | ((with_reducible refine AW.at_region 2 ?_); (refine A_move rfl rfl _ (.inl rfl) (y := .t _) rfl ?_ <;> try (refine A_add rfl rfl _ _ _ _ rfl rfl rfl (by exact IntWalk.i64_in _ (by omega)) ?_ <;> try (refine A_move rfl rfl _ (.inr rfl) (y := .t _) rfl ?_ <;> try refine AL.nil ?_)))))
            all_goals first | (exfalso; omega) | skip
            refine ⟨(i + 1, M), .inr ⟨by dsimp only; omega, by dsimp only; omega, hn2.symm⟩, by dsimp only; omega, ?_⟩
            refine Wk.cut2 1 (Nat.le_of_ble_eq_true rfl) rfl ?_; repeat' (first | exact Fk.nil | refine Fk.pu ?_ ?_ | rfl | exact hup)
    · have hM : M = srt key l a b := by
        rcases hi with ⟨_, _, h⟩ | ⟨_, h2, h⟩
        · exact h
        · obtain rfl : i = b := by omega
          exact h
      subst hM
      repeat' (first | with_reducible refine AW.seq ?_ | with_reducible refine thenQ_n ?_ | with_reducible refine thenQ_e ?_ | with_reducible refine blockQ_e0 ?_ | with_reducible refine retQ_n ?_ | with_reducible refine AW.exit ?_ | (refine AW.cond rfl (fun hc => ?_) (fun hc => ?_) <;> (try simp only [decide_eq_true_eq, decide_eq_false_iff_not, Bool.not_eq_true', Bool.not_eq_false'] at hc) <;> (try contradiction)) | ((with_reducible refine AW.at_region 1 ?_); (refine A_move rfl rfl _ (.inl rfl) (y := .t _) rfl ?_ <;> try (refine A_move rfl rfl _ (.inl rfl) (y := .t _) rfl ?_ <;> try (refine A_cmp rfl rfl (c := false) _ _ _ _ _ rfl rfl rfl qF ?_ <;> try refine AL.nil ?_)))))
      all_goals first | (exfalso; omega) | (refine Fin.mkv (rs := _) Try.results171 .nil [] (by decide) rfl ?_ ?_ ?_ <;> repeat' (first | exact .nil | refine .cons rfl ?_ ?_ | refine .cons ?_ ?_ | refine .row ?_ | refine .rset ?_ | refine .box ?_ | exact .gone | refine .aggL ?_ | refine .tupL ?_ | refine .old rfl ?_ | refine .new rfl rfl rfl ?_ | exact .nl | exact .optr rfl | exact .nptr rfl rfl rfl | refine .t ?_ | exact .any _ | rfl))
end Go.Proofs.Ytkichjejadkdgaa
