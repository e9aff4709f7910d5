/- Halls, and cells, as words: the program's. -/
import Derived.Test.YtijaphlmomcbfaaTFits
import Derived.Test.YtijaphlmomcbfaaTIoR
namespace Go.Proofs.Ytijaphlmomcbfaa
set_option linter.unusedVariables false
set_option linter.unusedSimpArgs false
set_option linter.unnecessarySimpa false
open Go.RowKit
set_option maxHeartbeats 32000000
attribute [local irreducible] AL AW RG Fin C Cd Cio thenQ blockQ retQ
set_option maxRecDepth 100000
attribute [local simp] wpad_len
theorem wpad_eq {l : List Int} {n : Nat} (h : l.length ≤ n) : wpad l n = l ++ List.replicate (n - l.length) 0 := by
  refine List.ext_getElem? fun i => ?_
  by_cases hi : i < n
  · rw [wpad_get l hi, List.getD_eq_getElem?_getD]
    by_cases hl : i < l.length
    · rw [List.getElem?_append_left hl, List.getElem?_eq_getElem hl]; rfl
    · rw [List.getElem?_append_right (by omega), List.getElem?_replicate, if_pos (by omega), List.getElem?_eq_none (by omega)]; rfl
  · rw [List.getElem?_eq_none (by simp; omega), List.getElem?_eq_none (by simp; omega)]
set_option maxHeartbeats 4000000 in
theorem crow_c (l : List Int) (n k m : Nat) (o : List Int) (hm : m = o.length) (hv : ∀ x ∈ l, 0 ≤ x ∧ x ≤ 4294967295) (hl : l.length ≤ 1000000) (hb : o.length + n ≤ 1000000) :
    Cio Try.prog 91 [.sl 0 k m, .ln (l.map tI), i64 n] [.row k 84 1 (o.map tU)] (.sl 0 (k + n) (m + n)) [.row (k + n) 84 1 ((o ++ wpad l n).map tU)] := by
  subst hm
  have h1 : (l.map tI).length = l.length := List.length_map _
  refine Cio.enter' Try.func91 rfl Try.ntmps91 rfl qM ?_
  repeat' (first | ((with_reducible refine kAL ?_); (first | refine A_move rfl rfl _ (.inr rfl) (y := .nl) rfl ?_ | refine A_mt rfl rfl rfl rfl ?_ | refine AL.nil ?_)) | with_reducible refine AW.at_region _ ?_ | (with_reducible (first | refine wk0 ?_ | refine wk1 ?_ | refine wk2 ?_)))
  refine AW.loopP (fun (i : Nat) => i ≤ n) (fun (i : Nat) => (pu (pu (pu (pu (fun _ => .any) 0 (.sl 0 (k + i) (o.length + i))) 1 (.ln (l.map tI))) 9 (i64 n)) 10 (i64 i))) (fun (i : Nat) => [.row (k + i) 84 1 ((o ++ wpad l i).map tU)]) (fun (i : Nat) => n - i) (0) ?_ ?_ ?_
  · exact Nat.zero_le _
  · rw [show o ++ wpad l 0 = o by simp [wpad]]
    exact Wk.cq 1
  · intro i h2
    have hL : (o ++ wpad l i).length = o.length + i := by simp
    by_cases hi : i < n
    · by_cases hj : i < l.length
      · obtain ⟨a, ha⟩ : ∃ a, l[i]? = some a := ⟨_, List.getElem?_eq_getElem hj⟩
        have hva := hv a (List.mem_of_getElem? ha)
        have hs : o ++ wpad l (i + 1) = (o ++ wpad l i) ++ [a] := by rw [wpad_succ, List.getD_eq_getElem?_getD, ha, List.append_assoc]; rfl
        repeat' (first | ((with_reducible refine kAL ?_); (first | (refine kL 1 rfl ?_; (first | refine A_as rfl rfl rfl rfl ?_ | refine A_move rfl rfl _ (.inr rfl) (y := .sl _ _ _) rfl ?_)) | (refine kL 0 rfl ?_; (first | refine A_mt rfl rfl rfl rfl ?_ | refine A_move rfl rfl _ (.inl rfl) (y := .sl _ _ _) rfl ?_ | refine A_move rfl rfl _ (.inl rfl) (y := .ln _) rfl ?_)) | (refine kL 105 rfl ?_; (first | refine A_cmp (d := 11) rfl rfl (c := true) .lss 3 3 _ _ rfl rfl rfl (by exact congrArg some (decide_eq_true (by (try (dsimp only; fail_if_success done)); omega))) ?_ | refine A_cmp (d := 16) rfl rfl (c := true) .lss 3 3 _ _ rfl rfl rfl (by exact congrArg some (decide_eq_true (by (try (dsimp only; fail_if_success done)); omega))) ?_ | refine A_add rfl rfl 3 3 _ _ rfl rfl rfl (by exact wi) ?_)) | (refine kL 12 rfl ?_; (first | refine A_len rfl rfl 22 _ rfl ud22 rfl ?_ | refine A_append rfl rfl _ _ 37 rfl ud37 inf84 rfl rfl rfl (by first | (simp <;> fail) | fail) (by exact .all rfl (by rfl)) qB qB (by exact app_one (f := tU) (x := _) (by omega)) qN qS ?_)) | (refine kL 710 rfl ?_; refine A_idx rfl rfl 22 _ _ rfl ud22 inf3 (by decide) (by exact .inl rfl) rfl (by omega) _ (by with_reducible exact Int.toNat_natCast _) (by exact map_get (by assumption)) rfl (cs' := [_]) rfl ?_) | refine A_load_lp rfl rfl 3 _ rfl ud3 rfl rfl rfl ?_ | refine A_conv rfl rfl 3 84 _ rfl ud3 ud84 rfl (by exact wu) ?_ | (refine kL 1199 rfl ?_; refine A_lit rfl rfl 37 1 _ rfl ud37 inf84 (.cons rfl .nil) (els := [[_]]) rfl (by exact (rfl : _ = List.map tU [_])) rfl (Nat.ne_of_beq_eq_false rfl) (Nat.le_of_ble_eq_true rfl) (Nat.le_of_ble_eq_true rfl) (.push qL qN) ?_) | refine AL.nil ?_)) | with_reducible refine AW.at_region _ ?_ | (with_reducible (first | refine wk0 ?_ | refine wk1 ?_ | refine wk2 ?_ | refine wk5 ?_ | refine wkd ?_)) | refine kct rfl ?_)
        all_goals first | (exfalso; omega) | skip
        refine ⟨i + 1, by omega, by omega, ?_⟩
        rw [hs]
        exact Wk.cq 1
      · have hs : o ++ wpad l (i + 1) = (o ++ wpad l i) ++ [0] := by rw [wpad_succ, List.getD_eq_getElem?_getD, List.getElem?_eq_none (by omega), List.append_assoc]; rfl
        repeat' (first | ((with_reducible refine kAL ?_); (first | (refine kL 1 rfl ?_; (first | refine A_as rfl rfl rfl rfl ?_ | refine A_move rfl rfl _ (.inr rfl) (y := .sl _ _ _) rfl ?_)) | (refine kL 0 rfl ?_; (first | refine A_mt rfl rfl rfl rfl ?_ | refine A_move rfl rfl _ (.inl rfl) (y := .sl _ _ _) rfl ?_ | refine A_move rfl rfl _ (.inl rfl) (y := .ln _) rfl ?_)) | (refine kL 105 rfl ?_; (first | refine A_cmp (d := 11) rfl rfl (c := true) .lss 3 3 _ _ rfl rfl rfl (by exact congrArg some (decide_eq_true (by (try (dsimp only; fail_if_success done)); omega))) ?_ | refine A_cmp (d := 16) rfl rfl (c := false) .lss 3 3 _ _ rfl rfl rfl (by exact congrArg some (decide_eq_false (by (try (dsimp only; fail_if_success done)); omega))) ?_ | refine A_add rfl rfl 3 3 _ _ rfl rfl rfl (by exact wi) ?_)) | (refine kL 12 rfl ?_; (first | refine A_len rfl rfl 22 _ rfl ud22 rfl ?_ | refine A_append rfl rfl _ _ 37 rfl ud37 inf84 rfl rfl rfl (by first | (simp <;> fail) | fail) (by exact .all rfl (by rfl)) qB qB (by exact app_one (f := tU) (x := _) (by omega)) qN qS ?_)) | (refine kL 1199 rfl ?_; refine A_lit rfl rfl 37 1 _ rfl ud37 inf84 (.cons rfl .nil) (els := [[_]]) rfl (by exact (rfl : _ = List.map tU [_])) rfl (Nat.ne_of_beq_eq_false rfl) (Nat.le_of_ble_eq_true rfl) (Nat.le_of_ble_eq_true rfl) (.push qL qN) ?_) | refine AL.nil ?_)) | with_reducible refine AW.at_region _ ?_ | (with_reducible (first | refine wk0 ?_ | refine wk1 ?_ | refine wk2 ?_ | refine wk5 ?_ | refine wkd ?_)) | refine kct rfl ?_ | refine kcf rfl ?_)
        all_goals first | (exfalso; omega) | skip
        refine ⟨i + 1, by omega, by omega, ?_⟩
        rw [hs]
        exact Wk.cq 1
    · obtain rfl : i = n := by omega
      repeat' (first | ((with_reducible refine kAL ?_); (first | refine A_move rfl rfl _ (.inr rfl) (y := .sl _ _ _) rfl ?_ | refine A_move rfl rfl _ (.inl rfl) (y := .sl _ _ _) rfl ?_ | refine A_cmp (d := 11) rfl rfl (c := false) .lss 3 3 _ _ rfl rfl rfl (by exact congrArg some (decide_eq_false (by (try (dsimp only; fail_if_success done)); omega))) ?_ | refine AL.nil ?_)) | with_reducible refine AW.at_region _ ?_ | (with_reducible (first | refine wk0 ?_ | refine wk2 ?_ | refine wk4 ?_ | refine wk7 ?_ | refine wk9 ?_ | refine wkb ?_ | refine wkc ?_)) | refine kcf rfl ?_)
      all_goals first | (exfalso; omega) | (exact Fin.q Try.results91 (.cons (.tmp rfl) .nil) [])
theorem crow_n (l : List Int) (cap : Int) (n k m : Nat) (o : List Int) (hc : cap = n) (hm : m = o.length) (hv : ∀ x ∈ l, 0 ≤ x ∧ x ≤ 4294967295) (hl : l.length ≤ 1000000) (hb : o.length + n ≤ 1000000) :
    Cio Try.prog 91 [.sl 0 k m, .ln (l.map tI), i64 cap] [.row k 84 1 (o.map tU)] (.sl 0 (k + n) (m + n)) [.row (k + n) 84 1 ((o ++ wpad l n).map tU)] := by subst hc; exact crow_c l n k m o hm hv hl hb
set_option maxHeartbeats 4000000 in
theorem cresults_c (l : List Rst) (k m : Nat) (o : List Int) (hm : m = o.length) (hl : l.length ≤ 1000000) (hb : o.length + l.length ≤ 1000000) :
    Cio Try.prog 95 [.sl 0 k m, .ln (l.map tR)] [.row k 84 1 (o.map tU)] (.sl 0 (k + l.length) (m + l.length)) [.row (k + l.length) 84 1 ((o ++ l.map wordR).map tU)] := by
  subst hm
  have h1 : (l.map tR).length = l.length := List.length_map _
  refine Cio.enter' Try.func95 rfl Try.ntmps95 rfl qM ?_
  repeat' (first | ((with_reducible refine kAL ?_); (first | refine A_move rfl rfl _ (.inr rfl) (y := .nl) rfl ?_ | (refine kL 0 rfl ?_; (first | refine A_mt rfl rfl rfl rfl ?_ | refine A_move rfl rfl _ (.inl rfl) (y := .ln _) rfl ?_)) | refine A_len rfl rfl 32 _ rfl ud32 rfl ?_ | refine AL.nil ?_)) | with_reducible refine AW.at_region _ ?_ | (with_reducible (first | refine wk0 ?_ | refine wk1 ?_ | refine wk2 ?_)))
  refine AW.loopP (fun (i : Nat) => i ≤ l.length) (fun (i : Nat) => (pu (pu (pu (pu (fun _ => .any) 0 (.sl 0 (k + i) (o.length + i))) 7 (.ln (l.map tR))) 8 (i64 (l.map tR).length)) 9 (i64 i))) (fun (i : Nat) => [.row (k + i) 84 1 ((o ++ (l.take i).map wordR).map tU)]) (fun (i : Nat) => l.length - i) (0) ?_ ?_ ?_
  · exact Nat.zero_le _
  · rw [show o ++ (l.take 0).map wordR = o by simp]
    exact Wk.cq 1
  · intro i h2
    have hL : (o ++ (l.take i).map wordR).length = o.length + i := by simp; omega
    by_cases hi : i < l.length
    · obtain ⟨a, ha⟩ : ∃ a, l[i]? = some a := ⟨_, List.getElem?_eq_getElem hi⟩
      have hs : o ++ (l.take (i + 1)).map wordR = (o ++ (l.take i).map wordR) ++ [wordR a] := by rw [List.take_add_one, ha]; simp
      repeat' (first | ((with_reducible refine kAL ?_); (first | refine A_move rfl rfl _ (.inr rfl) (y := .sl _ _ _) rfl ?_ | (refine kL 0 rfl ?_; (first | refine A_mt rfl rfl rfl rfl ?_ | refine A_move rfl rfl _ (.inl rfl) (y := .sl _ _ _) rfl ?_)) | (refine kL 12 rfl ?_; refine A_append rfl rfl _ _ 37 rfl ud37 inf84 rfl rfl rfl (by (simp; omega)) (by exact .all rfl (by rfl)) qB qB (by exact app_one (f := tU) (x := _) (by omega)) qN qS ?_) | (refine kL 105 rfl ?_; (first | refine A_cmp (d := 10) rfl rfl (c := true) .lss 3 3 _ _ rfl rfl rfl (by exact congrArg some (decide_eq_true (by (try (dsimp only; fail_if_success done)); omega))) ?_ | refine A_add rfl rfl 3 3 _ _ rfl rfl rfl (by exact wi) ?_)) | (refine kL 1030 rfl ?_; refine A_idx rfl rfl 32 _ _ rfl ud32 inf107 (by decide) (by exact .inl rfl) rfl (by omega) _ (by with_reducible exact Int.toNat_natCast _) (by exact map_get (by assumption)) rfl (cs' := [_, _, _, _]) rfl ?_) | (refine kL 3426 rfl ?_; (first | refine A_load_agg rfl rfl 107 _ rfl ud107 rfl inf107 rfl rfl (us' := [_, _, _, _]) rfl rfl ?_ | refine A_load_lp_agg rfl rfl 107 _ rfl ud107 rfl inf107 rfl (us' := [_, _, _, _]) rfl rfl ?_)) | refine A_alloc rfl rfl 107 rfl inf107 (cs := [.t (.v (.int .i64 0)), .t (.v (.int .i64 0)), .t (.v (.int .i64 0)), .t (.v (.int .i64 0))]) rfl (.push qL qN) ?_ | refine A_store rfl rfl 107 _ _ rfl inf107 rfl rfl rfl rfl (Nat.le_of_ble_eq_true rfl) qN qN ?_ | (refine kL 4778 rfl ?_; refine A_cl rfl rfl Try.func149 rfl (presult_c a) ?_) | (refine kL 1199 rfl ?_; refine A_lit rfl rfl 37 1 _ rfl ud37 inf84 (.cons rfl .nil) (els := [[_]]) rfl (by exact (rfl : _ = List.map tU [_])) rfl (Nat.ne_of_beq_eq_false rfl) (Nat.le_of_ble_eq_true rfl) (Nat.le_of_ble_eq_true rfl) (.push qL qN) ?_) | refine AL.nil ?_)) | with_reducible refine AW.at_region _ ?_ | (with_reducible (first | refine wk0 ?_ | refine wk1 ?_ | refine wk2 ?_ | refine wk5 ?_ | refine wkd ?_)) | refine kct rfl ?_)
      all_goals first | (exfalso; omega) | skip
      refine ⟨i + 1, by omega, by omega, ?_⟩
      rw [hs]
      exact Wk.cq 1
    · obtain rfl : i = l.length := by omega
      repeat' (first | ((with_reducible refine kAL ?_); (first | refine A_move rfl rfl _ (.inr rfl) (y := .sl _ _ _) rfl ?_ | refine A_move rfl rfl _ (.inl rfl) (y := .sl _ _ _) rfl ?_ | refine A_cmp (d := 10) rfl rfl (c := false) .lss 3 3 _ _ rfl rfl rfl (by exact congrArg some (decide_eq_false (by (try (dsimp only; fail_if_success done)); omega))) ?_ | refine AL.nil ?_)) | with_reducible refine AW.at_region _ ?_ | (with_reducible (first | refine wk0 ?_ | refine wk2 ?_ | refine wk4 ?_ | refine wk7 ?_ | refine wk9 ?_ | refine wkb ?_ | refine wkc ?_)) | refine kcf rfl ?_)
      all_goals first | (exfalso; omega) | ((refine Fin.mkv (rs := _) Try.results95 (.cons (.tmp rfl) .nil) [] (by decide) rfl ?_ ?_ ?_ <;> repeat' (skip; first | exact .nil | refine .cons rfl ?_ ?_ | refine .cons ?_ ?_ | refine .row ?_ | refine .rset ?_ | refine .box ?_ | exact .gone | refine .aggL ?_ | refine .tupL ?_ | refine .old rfl ?_ | refine .new rfl rfl rfl ?_ | exact .nl | exact .optr rfl | exact .nptr rfl rfl rfl | refine .t ?_ | exact .any _ | rfl)))
      all_goals (rw [List.take_length])
theorem flag_c (b : Bool) : Cd Try.prog 93 [bo b] (u64 (bitI b)) [] := by
  cases b
  all_goals
    refine Cd.enter' Try.func93 rfl Try.ntmps93 rfl ?_
    repeat' (first | ((with_reducible refine kAL ?_); (first | refine A_as rfl rfl rfl rfl ?_ | refine A_mt rfl rfl rfl rfl ?_ | refine AL.nil ?_)) | with_reducible refine AW.at_region _ ?_ | (with_reducible (first | refine wk0 ?_ | refine wk2 ?_ | refine wk3 ?_ | refine wk9 ?_ | refine wkb ?_ | refine wkd ?_)) | refine kct rfl ?_ | refine kcf rfl ?_)
    all_goals (exact Fin.q Try.results93 (.cons (.tmp rfl) .nil) [])
set_option maxHeartbeats 4000000 in
theorem head_c (x : DChan) (cap : Int) (hc : cap ≤ 15) (h : chanOK cap x = true) : Cd Try.prog 92 [aCh x] (u64 (headC x)) [] := by
  obtain ⟨h1, h2, ⟨h3, h4⟩, _⟩ := chanOK_iff.1 h
  have g1 : (x.buf.map tI).length = x.buf.length := List.length_map _
  have b1 := bitI_b x.used
  have b2 := bitI_b x.closed
  have c1 := flag_c x.used
  have c2 := flag_c x.closed
  unfold headC
  refine Cd.enter' Try.func92 rfl Try.ntmps92 rfl ?_
  repeat' (first | ((with_reducible refine kAL ?_); (first | refine A_box rfl rfl 83 _ rfl rfl (.push qL qN) ?_ | refine A_as rfl rfl rfl rfl ?_ | refine AL.nil ?_)) | ((with_reducible refine kRG ?_); (first | (refine kR 2660 rfl ?_; (first | refine R_field rfl rfl 83 _ 0 rfl ud83 rfl inf3 (by decide) 0 rfl rfl ?_ | refine R_field rfl rfl 83 _ 1 rfl ud83 rfl inf3 (by decide) 1 rfl rfl ?_ | refine R_field rfl rfl 83 _ 2 rfl ud83 rfl inf4 (by decide) 2 rfl rfl ?_ | refine R_field rfl rfl 83 _ 3 rfl ud83 rfl inf4 (by decide) 3 rfl rfl ?_ | refine R_field rfl rfl 83 _ 4 rfl ud83 rfl inf22 (by decide) 4 rfl rfl ?_)) | refine R_load rfl rfl 3 _ rfl ud3 rfl rfl rfl rfl ?_ | refine R_conv rfl rfl 3 84 _ rfl ud3 ud84 rfl (by exact wu) ?_ | (refine kR 2697 rfl ?_; (first | refine R_shl rfl rfl 84 101 _ _ rfl rfl rfl (by decide) (shl_lit (m := 4096) rfl (by exact wu)) ?_ | refine R_bits rfl rfl .or 84 84 _ _ rfl rfl rfl rfl (or_sum' 12 (M := 4096) rfl (by omega) (by omega) (by omega) (by omega) (by omega) (by omega)) ?_ | refine R_bits rfl rfl .or 84 84 _ _ rfl rfl rfl rfl (or_sum' 16 (M := 65536) rfl (by omega) (by omega) (by omega) (by omega) (by omega) (by omega)) ?_ | refine R_bits rfl rfl .or 84 84 _ _ rfl rfl rfl rfl (or_sum' 17 (M := 131072) rfl (by omega) (by omega) (by omega) (by omega) (by omega) (by omega)) ?_ | refine R_bits rfl rfl .or 84 84 _ _ rfl rfl rfl rfl (or_sum' 20 (M := 1048576) rfl (by omega) (by omega) (by omega) (by omega) (by omega) (by omega)) ?_ | refine R_shl rfl rfl 84 101 _ _ rfl rfl rfl (by decide) (shl_lit (m := 65536) rfl (by exact wu)) ?_ | refine R_shl rfl rfl 84 101 _ _ rfl rfl rfl (by decide) (shl_lit (m := 131072) rfl (by exact wu)) ?_ | refine R_shl rfl rfl 84 101 _ _ rfl rfl rfl (by decide) (shl_lit (m := 1048576) rfl (by exact wu)) ?_)) | refine R_load rfl rfl 4 _ rfl ud4 rfl rfl rfl rfl ?_ | (refine kR 2986 rfl ?_; (first | (refine R_cl rfl rfl Try.func93 rfl (c1) ?_; refine ⟨0, _, _, _, rfl, qU, qU, qZ, ?_⟩) | (refine R_cl rfl rfl Try.func93 rfl (c2) ?_; refine ⟨0, _, _, _, rfl, qU, qU, qZ, ?_⟩))) | refine R_load rfl rfl 22 _ rfl ud22 rfl rfl rfl rfl ?_ | refine R_len rfl rfl 22 _ rfl ud22 rfl ?_ | refine R_as rfl rfl rfl rfl ?_ | refine RG.nil ⟨by kernel_rfl, ?_⟩)) | (with_reducible (first | refine wk0 ?_ | refine wk2 ?_ | refine wk9 ?_ | refine wkb ?_)) | with_reducible refine AW.at_region _ ?_ | refine AW.at_draw 1 mixed 0 [[], [0], [0, 1], [], [3], [3, 4], [3, 4, 5], [0, 1, 2, 3, 4, 5, 6], [], [8], [8, 9], [8, 9, 10], [0, 1, 2, 3, 4, 5, 6, 7, 8, 9, 10, 11], [], [13], [8, 9, 10, 13, 14], [8, 9, 10, 13, 14, 15], [0, 1, 2, 3, 4, 5, 6, 7, 8, 9, 10, 11, 12, 13, 14, 15, 16], [], [18], [18, 19], [18, 19, 20], [18, 19, 20, 21], [0, 1, 2, 3, 4, 5, 6, 7, 8, 9, 10, 11, 12, 13, 14, 15, 16, 17, 18, 19, 20, 21, 22], [0, 1, 2, 3, 4, 5, 6, 7, 8, 9, 10, 11, 12, 13, 14, 15, 16, 17, 18, 19, 20, 21, 22, 23]] qR ?_)
  all_goals first | (exfalso; omega) | (refine Fin.q Try.results92 (.cons (.tmp rfl) .nil) [] (hr := (.t ?_)))
  all_goals (refine congrArg (fun z => Tr.v (Value.int IntKind.u64 z)) ?_; omega)
def callW (q : DReq) (ph : Int) : List Int := (q.kind + 256 * q.cases.length + 65536 * q.arg + 4294967296 * q.value) :: (wpad (q.cases.map wordK) 3 ++ [ph])
theorem fitQ_iff {q : DReq} : fitQ q = true ↔ (1 ≤ q.kind ∧ q.kind ≤ 9) ∧ (0 ≤ q.arg ∧ q.arg ≤ 65535) ∧ (0 ≤ q.value ∧ q.value ≤ 4294967295) ∧ q.cases.length ≤ 3 ∧ ∀ k ∈ q.cases, caseOK k = true := by
  unfold fitQ; simp only [Bool.and_eq_true, decide_eq_true_eq, List.all_eq_true, inI_iff, and_assoc]
def callA (hd : Int) (l : List DCase) (i : Nat) : List Int := hd :: (l.take i).map wordK
def callB (hd : Int) (l : List DCase) (j : Nat) : List Int := hd :: (l.map wordK ++ List.replicate j 0)
set_option maxHeartbeats 8000000 in
theorem pCall_c (q : DReq) (ph : Int) (hq : fitQ q = true) (hd : q.dflt = false) (hp : 0 ≤ ph ∧ ph ≤ 4294967295) : Cd Try.prog 94 [aRq q, i64 ph] (.t (.lst ((callW q ph).map tU))) [] := by
  obtain ⟨g1, g2, g3, g4, g5⟩ := fitQ_iff.1 hq
  have c1 := pFits_c q (by omega)
  rw [hq] at c1
  have c2 := pfits_c ph 32 4294967296 (by decide) (by decide)
  rw [show fitI ph 4294967296 = true from decide_eq_true (by omega)] at c2
  have h1 : (q.cases.map tCs).length = q.cases.length := List.length_map _
  unfold callW
  rw [wpad_eq (by simpa using g4), List.length_map]
  obtain ⟨kd, ar, vl, df, l⟩ := q
  dsimp only at *
  subst hd
  generalize hH : kd + 256 * (l.length : Int) + 65536 * ar + 4294967296 * vl = hd0
  have hH2 : kd + ((l.map tCs).length : Int) * 256 + ar * 65536 + vl * 4294967296 = hd0 := by omega
  refine Cd.enter' Try.func94 rfl Try.ntmps94 rfl ?_
  repeat' (first | ((with_reducible refine kAL ?_); (first | refine A_box rfl rfl 97 _ rfl rfl (.push qL qN) ?_ | (refine kL 1 rfl ?_; (first | refine A_as rfl rfl rfl rfl ?_ | refine A_move rfl rfl _ (.inr rfl) (y := .sl _ _ _) rfl ?_ | refine A_move rfl rfl _ (.inr rfl) (y := .nl) rfl ?_)) | refine A_load_agg rfl rfl 97 _ rfl ud97 rfl inf97 rfl rfl (us' := [_, _, _, _, _]) rfl rfl ?_ | (refine kL 4682 rfl ?_; refine A_cl rfl rfl Try.func146 rfl (c1) ?_) | refine A_not rfl rfl _ _ rfl rfl ?_ | refine A_mt rfl rfl rfl rfl ?_ | (refine kL 4746 rfl ?_; refine A_cl rfl rfl Try.func148 rfl (c2) ?_) | refine A_pick rfl rfl _ _ _ rfl rfl rfl rfl rfl ?_ | (refine kL 3108 rfl ?_; (first | refine A_field rfl rfl 97 _ 0 rfl ud97 rfl inf3 (by decide) 0 rfl rfl ?_ | refine A_field rfl rfl 97 _ 4 rfl ud97 rfl inf90 (by decide) 4 rfl rfl ?_ | refine A_field rfl rfl 97 _ 1 rfl ud97 rfl inf3 (by decide) 1 rfl rfl ?_ | refine A_field rfl rfl 97 _ 2 rfl ud97 rfl inf3 (by decide) 2 rfl rfl ?_ | refine A_field rfl rfl 97 _ 3 rfl ud97 rfl inf4 (by decide) 3 rfl rfl ?_)) | refine A_load rfl rfl 3 _ rfl ud3 rfl rfl rfl rfl ?_ | refine A_conv rfl rfl 3 84 _ rfl ud3 ud84 rfl (by exact wu) ?_ | refine A_load rfl rfl 90 _ rfl ud90 rfl rfl rfl rfl ?_ | refine A_len rfl rfl 90 _ rfl ud90 rfl ?_ | (refine kL 2697 rfl ?_; (first | refine A_shl rfl rfl 84 101 _ _ rfl rfl rfl (by decide) (shl_lit (m := 256) rfl (by exact wu)) ?_ | refine A_bits rfl rfl .or 84 84 _ _ rfl rfl rfl rfl (or_sum' 8 (M := 256) rfl (by omega) (by omega) (by omega) (by omega) (by omega) (by omega)) ?_ | refine A_bits rfl rfl .or 84 84 _ _ rfl rfl rfl rfl (or_sum' 16 (M := 65536) rfl (by omega) (by omega) (by omega) (by omega) (by omega) (by omega)) ?_ | refine A_bits rfl rfl .or 84 84 _ _ rfl rfl rfl rfl (or_sum' 32 (M := 4294967296) rfl (by omega) (by omega) (by omega) (by omega) (by omega) (by omega)) ?_ | refine A_shl rfl rfl 84 101 _ _ rfl rfl rfl (by decide) (shl_lit (m := 65536) rfl (by exact wu)) ?_ | refine A_shl rfl rfl 84 101 _ _ rfl rfl rfl (by decide) (shl_lit (m := 4294967296) rfl (by exact wu)) ?_)) | refine A_load rfl rfl 4 _ rfl ud4 rfl rfl rfl rfl ?_ | (refine kL 1199 rfl ?_; refine A_lit rfl rfl 37 1 _ rfl ud37 inf84 (.cons rfl .nil) (els := [[_]]) rfl (by exact (rfl : _ = List.map tU [_])) rfl (Nat.ne_of_beq_eq_false rfl) (Nat.le_of_ble_eq_true rfl) (Nat.le_of_ble_eq_true rfl) (.push qL qN) ?_) | refine AL.nil ?_)) | with_reducible refine AW.at_region _ ?_ | (with_reducible (first | refine wk0 ?_ | refine wk1 ?_ | refine wk2 ?_ | refine wkd ?_)) | refine kcf rfl ?_)
  all_goals first | (exfalso; omega) | skip
  refine AW.loopP (fun (i : Nat) => i ≤ l.length) (fun (i : Nat) => (pu (pu (pu (pu (pu (fun _ => .any) 1 (i64 ph)) 6 (.sl 1 i (1 + i))) 43 (.ln (l.map tCs))) 44 (i64 (l.map tCs).length)) 45 (i64 i))) (fun (i : Nat) => [.box 97 [i64 kd, i64 ar, i64 vl, bo false, .ln (l.map tCs)], .row i 84 1 ((callA hd0 l i).map tU)]) (fun (i : Nat) => l.length - i) (0) ?_ ?_ ?_
  · exact Nat.zero_le _
  · rw [show callA hd0 l 0 = [hd0] from rfl, ← hH2]
    exact Wk.cq 2
  · intro i h2
    have hL : (callA hd0 l i).length = 1 + i := by simp [callA]; omega
    by_cases hi : i < l.length
    · obtain ⟨a, ha⟩ : ∃ a, l[i]? = some a := ⟨_, List.getElem?_eq_getElem hi⟩
      have hk := caseOK_iff.1 (g5 a (List.mem_of_getElem? ha))
      have hw : wordK a = a.dir + a.handle * 256 + a.value * 4294967296 := by unfold wordK; omega
      have hs : callA hd0 l (i + 1) = callA hd0 l i ++ [a.dir + a.handle * 256 + a.value * 4294967296] := by unfold callA; rw [List.take_add_one, ha, ← hw]; simp
      repeat' (first | ((with_reducible refine kAL ?_); (first | refine A_move rfl rfl _ (.inr rfl) (y := .sl _ _ _) rfl ?_ | (refine kL 0 rfl ?_; (first | refine A_mt rfl rfl rfl rfl ?_ | refine A_move rfl rfl _ (.inl rfl) (y := .sl _ _ _) rfl ?_)) | refine A_load rfl rfl 3 _ rfl ud3 rfl rfl rfl rfl ?_ | refine A_conv rfl rfl 3 84 _ rfl ud3 ud84 rfl (by exact wu) ?_ | (refine kL 12 rfl ?_; refine A_append rfl rfl _ _ 37 rfl ud37 inf84 rfl rfl rfl (by (simp; omega)) (by exact .all rfl (by rfl)) qB qB (by exact app_one (f := tU) (x := _) (by omega)) qN qS ?_) | (refine kL 2697 rfl ?_; (first | refine A_shl rfl rfl 84 101 _ _ rfl rfl rfl (by decide) (shl_lit (m := 256) rfl (by exact wu)) ?_ | refine A_bits rfl rfl .or 84 84 _ _ rfl rfl rfl rfl (or_sum' 8 (M := 256) rfl (by omega) (by omega) (by omega) (by omega) (by omega) (by omega)) ?_ | refine A_bits rfl rfl .or 84 84 _ _ rfl rfl rfl rfl (or_sum' 32 (M := 4294967296) rfl (by omega) (by omega) (by omega) (by omega) (by omega) (by omega)) ?_ | refine A_shl rfl rfl 84 101 _ _ rfl rfl rfl (by decide) (shl_lit (m := 4294967296) rfl (by exact wu)) ?_)) | (refine kL 1199 rfl ?_; refine A_lit rfl rfl 37 1 _ rfl ud37 inf84 (.cons rfl .nil) (els := [[_]]) rfl (by exact (rfl : _ = List.map tU [_])) rfl (Nat.ne_of_beq_eq_false rfl) (Nat.le_of_ble_eq_true rfl) (Nat.le_of_ble_eq_true rfl) (.push qL qN) ?_) | (refine kL 105 rfl ?_; (first | refine A_cmp (d := 46) rfl rfl (c := true) .lss 3 3 _ _ rfl rfl rfl (by exact congrArg some (decide_eq_true (by (try (dsimp only; fail_if_success done)); omega))) ?_ | refine A_add rfl rfl 3 3 _ _ rfl rfl rfl (by exact wi) ?_)) | (refine kL 2886 rfl ?_; refine A_idx rfl rfl 90 _ _ rfl ud90 inf105 (by decide) (by exact .inl rfl) rfl (by omega) _ (by with_reducible exact Int.toNat_natCast _) (by exact map_get (by assumption)) rfl (cs' := [_, _, _]) rfl ?_) | refine A_load_lp_agg rfl rfl 105 _ rfl ud105 rfl inf105 rfl (us' := [_, _, _]) rfl rfl ?_ | refine A_alloc rfl rfl 105 rfl inf105 (cs := [.t (.v (.int .i64 0)), .t (.v (.int .i64 0)), .t (.v (.int .i64 0))]) rfl (.push qL qN) ?_ | refine A_store rfl rfl 105 _ _ rfl inf105 rfl rfl rfl rfl (Nat.le_of_ble_eq_true rfl) qN qN ?_ | (refine kL 3364 rfl ?_; (first | refine A_field rfl rfl 105 _ 0 rfl ud105 rfl inf3 (by decide) 0 rfl rfl ?_ | refine A_field rfl rfl 105 _ 1 rfl ud105 rfl inf3 (by decide) 1 rfl rfl ?_ | refine A_field rfl rfl 105 _ 2 rfl ud105 rfl inf3 (by decide) 2 rfl rfl ?_)) | refine AL.nil ?_)) | with_reducible refine AW.at_region _ ?_ | (with_reducible (first | refine wk0 ?_ | refine wk1 ?_ | refine wk2 ?_ | refine wk5 ?_ | refine wkd ?_)) | refine kct rfl ?_)
      all_goals first | (exfalso; omega) | skip
      refine ⟨i + 1, by omega, by omega, ?_⟩
      rw [hs]
      exact Wk.cq 2
    · obtain rfl : i = l.length := by omega
      repeat' (first | ((with_reducible refine kAL ?_); (first | refine A_cmp (d := 46) rfl rfl (c := false) .lss 3 3 _ _ rfl rfl rfl (by exact congrArg some (decide_eq_false (by (try (dsimp only; fail_if_success done)); omega))) ?_ | refine AL.nil ?_)) | with_reducible refine AW.at_region _ ?_ | (with_reducible (first | refine wk0 ?_ | refine wk1 ?_ | refine wk2 ?_ | refine wk4 ?_ | refine wk7 ?_ | refine wkc ?_)) | refine kcf rfl ?_)
      all_goals first | (exfalso; omega) | skip
      refine AW.loopP (fun (j : Nat) => l.length + j ≤ 3) (fun (j : Nat) => (pu (pu (fun _ => .any) 1 (i64 ph)) 6 (.sl 1 (l.length + j) (1 + l.length + j)))) (fun (j : Nat) => [.box 97 [i64 kd, i64 ar, i64 vl, bo false, .ln (l.map tCs)], .row (l.length + j) 84 1 ((callB hd0 l j).map tU)]) (fun (j : Nat) => 3 - j) (0) ?_ ?_ ?_
      · omega
      · rw [show callB hd0 l 0 = callA hd0 l l.length by simp [callA, callB]]
        exact Wk.cq 2
      · intro j h3
        have hL2 : (callB hd0 l j).length = 1 + l.length + j := by simp [callB]; omega
        by_cases hj : l.length + j < 3
        · have hs : callB hd0 l (j + 1) = callB hd0 l j ++ [0] := by unfold callB; rw [List.replicate_succ']; simp
          repeat' (first | ((with_reducible refine kAL ?_); (first | refine A_move rfl rfl _ (.inr rfl) (y := .sl _ _ _) rfl ?_ | refine A_move rfl rfl _ (.inl rfl) (y := .sl _ _ _) rfl ?_ | (refine kL 12 rfl ?_; (first | refine A_append rfl rfl _ _ 37 rfl ud37 inf84 rfl rfl rfl (by first | exact Nat.le_refl _ | (simp; omega)) (by exact .all rfl (by rfl)) qB qB (by exact app_one (f := tU) (x := _) (by omega)) qN qS ?_ | refine A_len rfl rfl 37 _ rfl ud37 rfl ?_)) | (refine kL 1199 rfl ?_; refine A_lit rfl rfl 37 1 _ rfl ud37 inf84 (.cons rfl .nil) (els := [[_]]) rfl (by exact (rfl : _ = List.map tU [_])) rfl (Nat.ne_of_beq_eq_false rfl) (Nat.le_of_ble_eq_true rfl) (Nat.le_of_ble_eq_true rfl) (.push qL qN) ?_) | refine A_cmp (d := 68) rfl rfl (c := true) .lss 3 3 _ _ rfl rfl rfl (by exact congrArg some (decide_eq_true (by (try (dsimp only; fail_if_success done)); omega))) ?_ | refine AL.nil ?_)) | with_reducible refine AW.at_region _ ?_ | (with_reducible (first | refine wk0 ?_ | refine wk1 ?_ | refine wk2 ?_ | refine wk5 ?_ | refine wkd ?_)) | refine kct rfl ?_)
          all_goals first | (exfalso; omega) | skip
          refine ⟨j + 1, by omega, by omega, ?_⟩
          rw [hs]
          exact Wk.cq 2
        · obtain rfl : j = 3 - l.length := by omega
          repeat' (first | ((with_reducible refine kAL ?_); (first | (refine kL 1 rfl ?_; (refine A_move (d := 4) rfl rfl _ (.inr rfl) (y := .sl _ _ _) rfl ?_; (try refine AL.wk (Wk.freeze 1 rfl 4 rfl (by exact .all (by (simp; omega))) qN) ?_))) | (refine kL 0 rfl ?_; (first | refine A_mt rfl rfl rfl rfl ?_ | refine A_move rfl rfl _ (.inl rfl) (y := .sl _ _ _) rfl ?_)) | refine A_conv rfl rfl 3 84 _ rfl ud3 ud84 rfl (by exact wu) ?_ | (refine kL 12 rfl ?_; (first | refine A_append rfl rfl _ _ 37 rfl ud37 inf84 rfl rfl rfl (by first | exact Nat.le_refl _ | (simp; omega)) (by exact .all rfl (by rfl)) qB qB (by exact app_one (f := tU) (x := _) (by omega)) qN qS ?_ | refine A_len rfl rfl 37 _ rfl ud37 rfl ?_)) | (refine kL 1199 rfl ?_; refine A_lit rfl rfl 37 1 _ rfl ud37 inf84 (.cons rfl .nil) (els := [[_]]) rfl (by exact (rfl : _ = List.map tU [_])) rfl (Nat.ne_of_beq_eq_false rfl) (Nat.le_of_ble_eq_true rfl) (Nat.le_of_ble_eq_true rfl) (.push qL qN) ?_) | refine A_cmp (d := 68) rfl rfl (c := false) .lss 3 3 _ _ rfl rfl rfl (by exact congrArg some (decide_eq_false (by (try (dsimp only; fail_if_success done)); omega))) ?_ | refine AL.nil ?_)) | with_reducible refine AW.at_region _ ?_ | (with_reducible (first | refine wk0 ?_ | refine wk2 ?_ | refine wk4 ?_ | refine wk7 ?_ | refine wk9 ?_ | refine wkb ?_ | refine wkc ?_)) | refine kcf rfl ?_)
          all_goals first | (exfalso; omega) | (exact Fin.q Try.results94 (.cons (.tmp rfl) .nil) [])
          all_goals (simp [callB]; done)
end Go.Proofs.Ytijaphlmomcbfaa
