/- Words that are read: code's reader. -/
import Derived.Test.YtijaphlmomcbfaaTCode
import Derived.Test.YtijaphlmomcbfaaTIoR
namespace Go.Proofs.Ytijaphlmomcbfaa
set_option linter.unusedVariables false
set_option linter.unusedSimpArgs false
set_option linter.unnecessarySimpa false
open Go.RowKit
set_option maxHeartbeats 32000000
attribute [local irreducible] AL AW RG Fin C Cd Cio thenQ blockQ retQ
set_option maxRecDepth 100000
abbrev fU (l : List Int) : AV := .t (.lst (l.map tU))
abbrev aRd (l : List Int) : Ob := .box 111 [fU l]
def okU (l : List Int) : Prop := ∀ w ∈ l, 0 ≤ w ∧ w ≤ 18446744073709551615
theorem okU_drop {l : List Int} (h : okU l) (n : Nat) : okU (l.drop n) := fun w hw => h w (List.mem_of_mem_drop hw)
theorem okU_headD {l : List Int} (h : okU l) : 0 ≤ l.headD 0 ∧ l.headD 0 ≤ 18446744073709551615 := by
  cases l with
  | nil => decide
  | cons a l => exact h a (by simp)
theorem rdRow_eq (l : List Int) (n : Nat) (m : Int) : rdRow l n m = (l.take (min m.toNat n)).map fun w => w % 4294967296 := by unfold rdRow; rw [List.take_take]
theorem rdRow_len (l : List Int) (n : Nat) (m : Int) : (rdRow l n m).length ≤ n := by rw [rdRow_eq]; simp; omega
theorem rdRow_succ {l : List Int} {i : Nat} {a m : Int} (ha : l[i]? = some a) (h : (i : Int) < m) : rdRow l (i + 1) m = rdRow l i m ++ [a % 4294967296] := by
  rw [rdRow_eq, rdRow_eq, show min m.toNat (i + 1) = i + 1 by omega, show min m.toNat i = i by omega, List.take_add_one, ha]; simp
theorem rdRow_stop {l : List Int} {i : Nat} {m : Int} (h : ¬ (i : Int) < m) : rdRow l (i + 1) m = rdRow l i m := by
  rw [rdRow_eq, rdRow_eq, show min m.toNat (i + 1) = m.toNat by omega, show min m.toNat i = m.toNat by omega]
theorem rnext_c (l : List Int) (hl : l.length ≤ 1152921504606846976) : Cio Try.prog 98 [.ptr 0 0] [aRd l] (u64 (l.headD 0)) [aRd (l.drop 1)] := by
  have h1 : (l.map tU).length = l.length := List.length_map _
  cases l with
  | nil =>
    refine Cio.enter' Try.func98 rfl Try.ntmps98 rfl qM ?_
    repeat' (first | ((with_reducible refine kAL ?_); (first | refine A_as rfl rfl rfl rfl ?_ | refine A_move rfl rfl _ (.inl rfl) (y := .ptr _ _) rfl ?_ | (refine kL 31 rfl ?_; refine A_nilc rfl rfl _ rfl rfl rfl ?_) | refine A_field rfl rfl 111 _ 0 rfl ud111 rfl inf37 (by decide) 0 rfl rfl ?_ | refine A_load rfl rfl 37 _ rfl ud37 rfl rfl rfl rfl ?_ | refine A_len rfl rfl 37 _ rfl ud37 rfl ?_ | refine A_cmp (d := 9) rfl rfl .eql 3 3 _ _ rfl rfl rfl rfl ?_ | refine AL.nil ?_)) | with_reducible refine AW.at_region _ ?_ | (with_reducible (first | refine wk0 ?_ | refine wk2 ?_ | refine wk3 ?_ | refine wk9 ?_ | refine wkb ?_)) | refine kct rfl ?_)
    all_goals first | (exfalso; simp at *; done) | (exact Fin.q Try.results98 (.cons (.tmp rfl) .nil) [])
    all_goals first | rfl | skip
  | cons a l =>
    have h2 : (a :: l)[0]? = some a := rfl
    refine Cio.enter' Try.func98 rfl Try.ntmps98 rfl qM ?_
    repeat' (first | ((with_reducible refine kAL ?_); (first | refine A_as rfl rfl rfl rfl ?_ | (refine kL 0 rfl ?_; (first | refine A_mt rfl rfl rfl rfl ?_ | refine A_move rfl rfl _ (.inl rfl) (y := .ptr _ _) rfl ?_)) | (refine kL 31 rfl ?_; refine A_nilc rfl rfl _ rfl rfl rfl ?_) | refine A_field rfl rfl 111 _ 0 rfl ud111 rfl inf37 (by decide) 0 rfl rfl ?_ | refine A_load rfl rfl 37 _ rfl ud37 rfl rfl rfl rfl ?_ | refine A_len rfl rfl 37 _ rfl ud37 rfl ?_ | refine A_cmp (d := 9) rfl rfl .eql 3 3 _ _ rfl rfl rfl rfl ?_ | (refine kL 1190 rfl ?_; refine A_idx rfl rfl 37 _ _ rfl ud37 inf84 (by decide) (by exact .inr rfl) rfl (by omega) _ (rfl : Int.toNat 0 = 0) (by exact map_get (by assumption)) rfl (cs' := [_]) rfl ?_) | refine A_load_lp rfl rfl 84 _ rfl ud84 rfl rfl rfl ?_ | (refine kL 1197 rfl ?_; (refine A_cut_t rfl rfl 37 _ _ _ rfl ud37 inf84 rfl (by exact each_map (fun _ => rfl)) (by (try simp only [List.length_map]); rfl) (.yes rfl (by omega) (rfl : Int.toNat 1 = 1)) (.no _) (by first | (simp <;> fail) | fail) (by omega) (by (simp only [List.drop_zero, Nat.sub_zero, ← List.map_drop, ← List.map_take]; rfl)) ?_)) | refine A_store rfl rfl 37 _ _ rfl inf37 rfl rfl rfl rfl (Nat.le_of_ble_eq_true rfl) qN qN ?_ | refine AL.nil ?_)) | with_reducible refine AW.at_region _ ?_ | (with_reducible (first | refine wk0 ?_ | refine wk2 ?_ | refine wk9 ?_ | refine wkb ?_ | refine wkd ?_)) | refine kcf rfl ?_)
    all_goals first | (exfalso; simp at *; omega) | ((refine Fin.mkv (rs := _) Try.results98 (.cons (.tmp rfl) .nil) [] (by decide) rfl ?_ ?_ ?_ <;> repeat' (skip; first | exact .nil | refine .cons rfl ?_ ?_ | refine .cons ?_ ?_ | refine .row ?_ | refine .rset ?_ | refine .box ?_ | exact .gone | refine .aggL ?_ | refine .tupL ?_ | refine .old rfl ?_ | refine .new rfl rfl rfl ?_ | exact .nl | exact .optr rfl | exact .nptr rfl rfl rfl | refine .t ?_ | exact .any _ | rfl)))
    all_goals (try simp)
set_option maxHeartbeats 4000000 in
theorem rrow_c (l : List Int) (hU : okU l) (m : Int) (n : Nat) (hn : n ≤ l.length) (hl : l.length ≤ 1000000) (hm : -9223372036854775808 ≤ m ∧ m ≤ 9223372036854775807) :
    Cio Try.prog 108 [.ptr 0 0, i64 m, i64 n] [aRd l] (.t (.lst ((rdRow l n m).map tI))) [aRd (l.drop n)] := by
  have h1 : (l.map tU).length = l.length := List.length_map _
  have hz : rdRow l 0 m = [] := by simp [rdRow]
  refine Cio.enter' Try.func108 rfl Try.ntmps108 rfl qM ?_
  repeat' (first | ((with_reducible refine kAL ?_); (first | refine A_move rfl rfl _ (.inr rfl) (y := .nl) rfl ?_ | refine A_mt rfl rfl rfl rfl ?_ | refine AL.nil ?_)) | with_reducible refine AW.at_region _ ?_ | (with_reducible (first | refine wk0 ?_ | refine wk1 ?_ | refine wk2 ?_)))
  refine AW.wk (Wk.own 7 rfl 3 1 (.push rfl rfl)) ?_
  refine AW.loopP (fun (x : Nat × Nat × Nat) => x.1 ≤ n ∧ x.2.2 = (rdRow l x.1 m).length) (fun (x : Nat × Nat × Nat) => (pu (pu (pu (pu (pu (fun _ => .any) 0 (.ptr 0 0)) 1 (i64 m)) 7 (.sl 1 x.2.1 x.2.2)) 10 (i64 n)) 11 (i64 x.1))) (fun (x : Nat × Nat × Nat) => [aRd (l.drop x.1), .row x.2.1 3 1 ((rdRow l x.1 m).map tI)]) (fun (x : Nat × Nat × Nat) => n - x.1) ((0, 0, 0)) ?_ ?_ ?_
  · exact ⟨Nat.zero_le _, by rw [hz]; rfl⟩
  · dsimp only
    rw [hz]
    exact Wk.cq 2
  · rintro ⟨i, k, c⟩ ⟨h2, h3⟩
    dsimp only at h2 h3 ⊢
    have hR := rdRow_len l i m
    by_cases hi : i < n
    · obtain ⟨a, ha⟩ : ∃ a, l[i]? = some a := ⟨_, List.getElem?_eq_getElem (by omega)⟩
      have cN := rnext_c (l.drop i) (by simp; omega)
      rw [drop_cons_of ha, List.headD_cons, List.drop_succ_cons, List.drop_zero, ← drop_cons_of ha] at cN
      have hb := hU a (List.mem_of_getElem? ha)
      by_cases hk : (i : Int) < m
      · have hs : rdRow l (i + 1) m = rdRow l i m ++ [a % 4294967296] := rdRow_succ ha hk
        repeat' (first | ((with_reducible refine kAL ?_); (first | (refine kL 1 rfl ?_; (first | refine A_as rfl rfl rfl rfl ?_ | refine A_move rfl rfl _ (.inr rfl) (y := .sl _ _ _) rfl ?_)) | (refine kL 0 rfl ?_; (first | refine A_mt rfl rfl rfl rfl ?_ | refine A_move rfl rfl _ (.inl rfl) (y := .sl _ _ _) rfl ?_ | refine A_move rfl rfl _ (.inl rfl) (y := .ptr _ _) rfl ?_)) | (refine kL 105 rfl ?_; (first | refine A_cmp (d := 12) rfl rfl (c := true) .lss 3 3 _ _ rfl rfl rfl (by exact congrArg some (decide_eq_true (by (try (dsimp only; fail_if_success done)); omega))) ?_ | refine A_cmp (d := 18) rfl rfl (c := true) .lss 3 3 _ _ rfl rfl rfl (by exact congrArg some (decide_eq_true (by (try (dsimp only; fail_if_success done)); omega))) ?_ | refine A_add rfl rfl 3 3 _ _ rfl rfl rfl (by exact wi) ?_)) | (refine kL 3146 rfl ?_; refine A_callio rfl rfl Try.func98 (by kernel_rfl) (by kernel_rfl) rfl [0] (by decide) (cN) (by repeat (first | exact .nil | refine .cons rfl ?_ ?_ | refine .box ?_ | (first | refine .cons ?_ ?_ | exact .t _))) (by ((repeat (first | exact .nil | exact .ptr rfl | refine .cons ?_ ?_)); (first | done | fail))) qL (by (try simp only [setSel, upO, upA, upF, gIO, List.map_cons, List.map_nil, List.drop_succ_cons, List.drop_zero, List.drop_nil, List.length_cons, List.length_nil, List.set_cons_zero, List.set_cons_succ, List.cons_append, List.nil_append, List.append_nil, List.getElem?_cons_zero, List.getElem?_cons_succ, List.getElem?_nil, Nat.zero_add, Nat.reduceAdd, Nat.reduceSub]); rfl) (by (try simp only [setSel, upO, upA, upF, gIO, List.map_cons, List.map_nil, List.drop_succ_cons, List.drop_zero, List.drop_nil, List.length_cons, List.length_nil, List.set_cons_zero, List.set_cons_succ, List.cons_append, List.nil_append, List.append_nil, List.getElem?_cons_zero, List.getElem?_cons_succ, List.getElem?_nil, Nat.zero_add, Nat.reduceAdd, Nat.reduceSub]); rfl) ?_) | (refine kL 2697 rfl ?_; refine A_bits rfl rfl .and 84 84 _ _ rfl rfl rfl rfl (and_lit 32 (M := 4294967296) rfl rfl (by omega) (by omega) (by omega)) ?_) | refine A_conv rfl rfl 84 3 _ rfl ud84 ud3 rfl (by exact wi) ?_ | (refine kL 719 rfl ?_; refine A_lit rfl rfl 22 1 _ rfl ud22 inf3 (.cons rfl .nil) (els := [[_]]) rfl (by exact (rfl : _ = List.map tI [_])) rfl (Nat.ne_of_beq_eq_false rfl) (Nat.le_of_ble_eq_true rfl) (Nat.le_of_ble_eq_true rfl) (.push qL qN) ?_) | (refine kL 12 rfl ?_; refine A_append rfl rfl _ _ 22 rfl ud22 inf3 rfl rfl rfl (by (simp; omega)) (by exact .all rfl (by rfl)) qB qB (by exact app_one (f := tI) (x := _) (by omega)) qN qS ?_) | refine AL.nil ?_)) | with_reducible refine AW.at_region _ ?_ | (with_reducible (first | refine wk0 ?_ | refine wk1 ?_ | refine wk2 ?_ | refine wk5 ?_ | refine wkd ?_)) | refine kct rfl ?_)
        all_goals first | (exfalso; omega) | skip
        refine ⟨(i + 1, k + 1, c + 1), ⟨by dsimp only; omega, by dsimp only; rw [hs]; simp; omega⟩, by dsimp only; omega, ?_⟩
        rw [hs]
        exact Wk.cq 2
      · have hs : rdRow l (i + 1) m = rdRow l i m := rdRow_stop hk
        repeat' (first | ((with_reducible refine kAL ?_); (first | refine A_as rfl rfl rfl rfl ?_ | (refine kL 0 rfl ?_; (first | refine A_mt rfl rfl rfl rfl ?_ | refine A_move rfl rfl _ (.inl rfl) (y := .ptr _ _) rfl ?_)) | (refine kL 105 rfl ?_; (first | refine A_cmp (d := 12) rfl rfl (c := true) .lss 3 3 _ _ rfl rfl rfl (by exact congrArg some (decide_eq_true (by (try (dsimp only; fail_if_success done)); omega))) ?_ | refine A_cmp (d := 18) rfl rfl (c := false) .lss 3 3 _ _ rfl rfl rfl (by exact congrArg some (decide_eq_false (by (try (dsimp only; fail_if_success done)); omega))) ?_ | refine A_add rfl rfl 3 3 _ _ rfl rfl rfl (by exact wi) ?_)) | (refine kL 3146 rfl ?_; refine A_callio rfl rfl Try.func98 (by kernel_rfl) (by kernel_rfl) rfl [0] (by decide) (cN) (by repeat (first | exact .nil | refine .cons rfl ?_ ?_ | refine .box ?_ | (first | refine .cons ?_ ?_ | exact .t _))) (by ((repeat (first | exact .nil | exact .ptr rfl | refine .cons ?_ ?_)); (first | done | fail))) qL (by (try simp only [setSel, upO, upA, upF, gIO, List.map_cons, List.map_nil, List.drop_succ_cons, List.drop_zero, List.drop_nil, List.length_cons, List.length_nil, List.set_cons_zero, List.set_cons_succ, List.cons_append, List.nil_append, List.append_nil, List.getElem?_cons_zero, List.getElem?_cons_succ, List.getElem?_nil, Nat.zero_add, Nat.reduceAdd, Nat.reduceSub]); rfl) (by (try simp only [setSel, upO, upA, upF, gIO, List.map_cons, List.map_nil, List.drop_succ_cons, List.drop_zero, List.drop_nil, List.length_cons, List.length_nil, List.set_cons_zero, List.set_cons_succ, List.cons_append, List.nil_append, List.append_nil, List.getElem?_cons_zero, List.getElem?_cons_succ, List.getElem?_nil, Nat.zero_add, Nat.reduceAdd, Nat.reduceSub]); rfl) ?_) | refine AL.nil ?_)) | with_reducible refine AW.at_region _ ?_ | (with_reducible (first | refine wk0 ?_ | refine wk1 ?_ | refine wk2 ?_ | refine wk5 ?_ | refine wkd ?_)) | refine kct rfl ?_ | refine kcf rfl ?_)
        all_goals first | (exfalso; omega) | skip
        refine ⟨(i + 1, k, c), ⟨by dsimp only; omega, by dsimp only; rw [hs]; exact h3⟩, by dsimp only; omega, ?_⟩
        rw [hs]
        exact Wk.cq 2
    · obtain rfl : i = n := by omega
      subst h3
      repeat' (first | ((with_reducible refine kAL ?_); (first | (refine kL 1 rfl ?_; (refine A_move (d := 6) rfl rfl _ (.inr rfl) (y := .sl _ _ _) rfl ?_; (try refine AL.wk (Wk.freeze 1 rfl 6 rfl (by first | exact .all (by first | (simp <;> fail) | fail) | fail) qN) ?_))) | refine A_move rfl rfl _ (.inl rfl) (y := .sl _ _ _) rfl ?_ | refine A_cmp (d := 12) rfl rfl (c := false) .lss 3 3 _ _ rfl rfl rfl (by exact congrArg some (decide_eq_false (by (try (dsimp only; fail_if_success done)); omega))) ?_ | refine AL.nil ?_)) | with_reducible refine AW.at_region _ ?_ | (with_reducible (first | refine wk0 ?_ | refine wk2 ?_ | refine wk4 ?_ | refine wk7 ?_ | refine wk9 ?_ | refine wkb ?_ | refine wkc ?_)) | refine kcf rfl ?_)
      all_goals first | (exfalso; omega) | (exact Fin.q Try.results108 (.cons (.tmp rfl) .nil) [])
end Go.Proofs.Ytijaphlmomcbfaa
