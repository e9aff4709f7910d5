/- waits.On of few that wait; the document's example of layer 10. -/
import Derived.Test.YtkichjejadkdgaaTOn
import Derived.Test.YtkichjejadkdgaaTSortW
import Derived.Test.YtkichjejadkdgaaTLaw10
namespace Go.Proofs.Ytkichjejadkdgaa
set_option linter.unusedVariables false
set_option linter.unusedSimpArgs false
set_option linter.unnecessarySimpa false
open Go.RowKit
set_option maxHeartbeats 32000000
attribute [local irreducible] AL AW RG Fin C Cd Cio thenQ blockQ retQ
set_option maxRecDepth 100000
def onK (l : List DWait) (h : Int) : Nat → List Int
  | 0 => []
  | k + 1 => if (l.getD k default).on && decide (0 ≤ ixF (isH h) (l.getD k default).cases) then onK l h k ++ [(k : Int)] else onK l h k
theorem onK_next {l : List DWait} {h : Int} {k : Nat} {a : DWait} (ha : l[k]? = some a) : onK l h (k + 1) = if a.on && decide (0 ≤ ixF (isH h) a.cases) then onK l h k ++ [(k : Int)] else onK l h k := by
  rw [onK, getD_of ha]
theorem onK_b (l : List DWait) (h : Int) (k : Nat) : (onK l h k).length ≤ k ∧ ∀ z ∈ onK l h k, 0 ≤ z ∧ z < k := by
  induction k with
  | zero => exact ⟨Nat.le_refl _, fun z hz => by simp [onK] at hz⟩
  | succ k ih =>
    unfold onK
    split
    · refine ⟨by simp; omega, fun z hz => ?_⟩
      rcases List.mem_append.1 hz with hz | hz
      · have := ih.2 z hz; omega
      · simp at hz; omega
    · exact ⟨by omega, fun z hz => by have := ih.2 z hz; omega⟩
structure OS where
  q : Nat
  k : Nat
  n : Nat
  O : List Int
set_option maxHeartbeats 8000000 in
theorem on_c (l : List DWait) (h : Int) (hl : okW l) (hsort : ∀ k, Cio Try.prog 94 [.sl 0 k (onK l h l.length).length, .fn (.func 95) [] [.lp [.ln (l.map tWt)]]] [.row k 3 1 ((onK l h l.length).map tI)] (.tup []) [.row k 3 1 ((isort (tick l) (onK l h l.length)).map tI)]) :
    Cd Try.prog 45 [.ln (l.map tWt), i64 h] (.sl 0 0 (onK l h l.length).length) [.row 0 3 1 ((isort (tick l) (onK l h l.length)).map tI)] := by
  have h0 := hl.1
  have h1 : (l.map tWt).length = l.length := List.length_map _
  first | refine Cd.enter' Try.func45 rfl Try.ntmps45 rfl ?_ | refine Cio.enter' Try.func45 rfl Try.ntmps45 rfl qM ?_ | refine C.enter' Try.func45 rfl Try.ntmps45 rfl qM ?_
  repeat' (first | ((with_reducible refine kAL ?_); (first | refine A_box rfl rfl 47 _ rfl rfl (.push qL qN) ?_ | refine A_box rfl rfl 3 _ rfl rfl (.push qL qN) ?_ | refine A_move rfl rfl _ (.inr rfl) (y := .nl) rfl ?_ | refine A_load rfl rfl 47 _ rfl ud47 rfl rfl rfl rfl ?_ | refine A_len rfl rfl 47 _ rfl ud47 rfl ?_ | refine A_mt rfl rfl rfl rfl ?_ | refine AL.nil ?_)) | with_reducible refine AW.at_region _ ?_ | (with_reducible (first | refine wk0 ?_ | refine wk1 ?_ | refine wk2 ?_)))
  refine AW.wk (Wk.own 5 rfl 3 1 (.push rfl rfl)) ?_
  refine AW.loopP (fun (x : OS) => x.q ≤ l.length ∧ x.O = onK l h x.q ∧ x.n = x.O.length) (fun (x : OS) => (pu (pu (pu (pu (pu (pu (fun _ => .any) 2 (.ptr 0 0)) 3 (.ptr 1 0)) 5 (.sl 2 x.k x.n)) 8 (.ln (l.map tWt))) 9 (i64 (l.map tWt).length)) 10 (i64 x.q))) (fun (x : OS) => [.box 47 [.ln (l.map tWt)], .box 3 [i64 h], .row x.k 3 1 (x.O.map tI)]) (fun (x : OS) => l.length - x.q) (⟨0, 0, 0, []⟩) ?_ ?_ ?_
  · exact ⟨Nat.zero_le _, rfl, rfl⟩
  · exact Wk.cq 3
  · rintro ⟨q, k, n, O⟩ ⟨h2, h3, h4⟩
    dsimp only at h2 h3 h4 ⊢
    subst h4
    have h5 := (onK_b l h q).1
    rw [← h3] at h5
    have h6 : (O.map tI).length = O.length := List.length_map _
    by_cases hq : q < l.length
    · obtain ⟨⟨on, tk, sq, cs⟩, ha⟩ : ∃ a, l[q]? = some a := ⟨_, List.getElem?_eq_getElem hq⟩
      have hn := onK_next (h := h) ha
      rw [← h3] at hn
      dsimp only at hn
      have hcs := hl.at ha
      dsimp only at hcs
      have cC := containsF_c 93 [] [.lp [i64 h]] (isH h) (fun c => ⟨_, _, [], [.lp [i64 h]], rfl, Try.func93, by kernel_rfl, by kernel_rfl, fun _ => .nil, fun _ => .cons (.lpL (.cons (.t _) .nil)) .nil, on1_c h c⟩) rfl (fun _ _ => .fnL .nil (.cons (.lpL (.cons (.t _) .nil)) .nil)) cs (by omega)
      generalize decide (0 ≤ ixF (isH h) cs) = b at cC hn
      cases on <;> cases b
      all_goals
        repeat' (first | ((with_reducible refine kAL ?_); (first | (refine kL 1 rfl ?_; (first | refine A_as rfl rfl rfl rfl ?_ | refine A_move rfl rfl _ (.inr rfl) (y := .sl _ _ _) rfl ?_)) | (refine kL 12 rfl ?_; refine A_append rfl rfl _ _ 44 rfl ud44 inf3 rfl rfl rfl (by first | (simp <;> fail) | fail) (by exact .all rfl (by rfl)) qB qB (by exact app_one (f := tI) (x := _) (by rfl)) qN qS ?_) | (refine kL 0 rfl ?_; (first | refine A_mt rfl rfl rfl rfl ?_ | refine A_move rfl rfl _ (.inl rfl) (y := .sl _ _ _) rfl ?_)) | (refine kL 105 rfl ?_; (first | refine A_cmp rfl rfl (c := true) .lss 3 3 _ _ rfl rfl rfl (by exact congrArg some (decide_eq_true (by (try (dsimp only; fail_if_success done)); omega))) ?_ | refine A_add rfl rfl 3 3 _ _ rfl rfl rfl (by exact wi) ?_)) | (refine kL 1510 rfl ?_; refine A_idx rfl rfl 47 _ _ rfl ud47 inf50 (by decide) (by exact .inl rfl) rfl (by omega) _ (by with_reducible exact Int.toNat_natCast _) (by exact map_get (by assumption)) rfl (cs' := [_, _, _, _]) rfl ?_) | refine A_load_lp_agg rfl rfl 50 _ rfl ud50 rfl inf50 rfl (us' := [_, _, _, _]) rfl rfl ?_ | refine A_alloc rfl rfl 50 rfl inf50 (cs := [.t (.v (.bool false)), .t (.v (.int .i64 0)), .t (.v (.int .i64 0)), AV.nl]) rfl (.push qL qN) ?_ | refine A_store rfl rfl 50 _ _ rfl inf50 rfl rfl rfl rfl (Nat.le_of_ble_eq_true rfl) qN qN ?_ | (refine kL 1604 rfl ?_; (first | refine A_field rfl rfl 50 _ 0 rfl ud50 rfl inf4 (by decide) 0 rfl rfl ?_ | refine A_field rfl rfl 50 _ 3 rfl ud50 rfl inf48 (by decide) 3 rfl rfl ?_)) | refine A_load rfl rfl 4 _ rfl ud4 rfl rfl rfl rfl ?_ | refine A_load rfl rfl 48 _ rfl ud48 rfl rfl rfl rfl ?_ | (refine kL 21 rfl ?_; refine A_fn rfl rfl _ _ _ rfl .nil (.cons rfl .nil) ?_) | (refine kL 2954 rfl ?_; refine A_cl rfl rfl Try.func92 rfl (cC) ?_) | refine A_pick rfl rfl _ _ _ rfl rfl rfl rfl rfl ?_ | (refine kL 1423 rfl ?_; refine A_lit rfl rfl 44 1 _ rfl ud44 inf3 (.cons rfl .nil) (els := [[_]]) rfl (by exact (rfl : _ = List.map tI [_])) rfl (Nat.ne_of_beq_eq_false rfl) (Nat.le_of_ble_eq_true rfl) (Nat.le_of_ble_eq_true rfl) (.push qL qN) ?_) | refine AL.nil ?_ | refine AL.skip rfl rfl ?_)) | with_reducible refine AW.at_region _ ?_ | (with_reducible (first | refine wk0 ?_ | refine wk1 ?_ | refine wk2 ?_ | refine wk5 ?_ | refine wkd ?_)) | refine kct rfl ?_ | refine kcf rfl ?_)
        all_goals first | (exfalso; omega) | (refine ⟨⟨q + 1, k + 1, O.length + 1, O ++ [(q : Int)]⟩, ⟨by dsimp only; omega, hn.symm, by simp⟩, by dsimp only; omega, ?_⟩; (exact Wk.cq 3); done) | (refine ⟨⟨q + 1, k, O.length, O⟩, ⟨by dsimp only; omega, hn.symm, rfl⟩, by dsimp only; omega, ?_⟩; (exact Wk.cq 3); done)
    · have e : q = l.length := by omega
      subst e
      subst h3
      repeat' (first | ((with_reducible refine kAL ?_); (first | refine A_move rfl rfl _ (.inr rfl) (y := .sl _ _ _) rfl ?_ | refine A_move rfl rfl _ (.inl rfl) (y := .sl _ _ _) rfl ?_ | refine A_cmp rfl rfl (c := false) .lss 3 3 _ _ rfl rfl rfl (by exact congrArg some (decide_eq_false (by (try (dsimp only; fail_if_success done)); omega))) ?_ | (refine kL 21 rfl ?_; refine A_fn rfl rfl _ _ _ rfl .nil (.cons rfl .nil) ?_) | (refine kL 3018 rfl ?_; refine A_callio rfl rfl Try.func94 (by kernel_rfl) (by kernel_rfl) rfl [2] (by decide) (hsort k) (by repeat (first | exact .nil | refine .cons rfl ?_ ?_ | exact .row)) (by ((repeat (first | exact .nil | exact .sel rfl | refine .cons ?_ ?_ | exact .ln _ | refine .boxL rfl rfl rfl ?_ | refine .fnL ?_ ?_)); (first | done | fail))) qL (by (try simp only [setSel, upO, upA, upF, gIO, List.map_cons, List.map_nil, List.drop_succ_cons, List.drop_zero, List.drop_nil, List.length_cons, List.length_nil, List.set_cons_zero, List.set_cons_succ, List.cons_append, List.nil_append, List.append_nil, List.getElem?_cons_zero, List.getElem?_cons_succ, List.getElem?_nil, Nat.zero_add, Nat.reduceAdd, Nat.reduceSub]); rfl) (by (try simp only [setSel, upO, upA, upF, gIO, List.map_cons, List.map_nil, List.drop_succ_cons, List.drop_zero, List.drop_nil, List.length_cons, List.length_nil, List.set_cons_zero, List.set_cons_succ, List.cons_append, List.nil_append, List.append_nil, List.getElem?_cons_zero, List.getElem?_cons_succ, List.getElem?_nil, Nat.zero_add, Nat.reduceAdd, Nat.reduceSub]); rfl) ?_) | refine AL.nil ?_)) | with_reducible refine AW.at_region _ ?_ | (with_reducible (first | refine wk0 ?_ | refine wk2 ?_ | refine wk4 ?_ | refine wk7 ?_ | refine wk9 ?_ | refine wkb ?_ | refine wkc ?_)) | refine kcf rfl ?_)
      all_goals first | (exfalso; omega) | (exact Fin.q Try.results45 (.cons (.tmp rfl) .nil) [2])
theorem on20_c (l : List DWait) (h : Int) (hl : l.length < 20) (hl2 : okW l) : Cd Try.prog 45 [.ln (l.map tWt), i64 h] (.sl 0 0 (onK l h l.length).length) [.row 0 3 1 ((isort (tick l) (onK l h l.length)).map tI)] :=
  on_c l h hl2 fun k => sortStable_c _ _ _ _ _ k (by have := (onK_b l h l.length).1; omega) (on_cmp l _ fun z hz => (onK_b l h l.length).2 z hz) rfl (fun _ _ => .fnL .nil (.cons (.lpL (.cons (.ln _) .nil)) .nil))
/-- who waits, of any that wait -/
theorem onAll_c (l : List DWait) (h : Int) (hl2 : okW l) : Cd Try.prog 45 [.ln (l.map tWt), i64 h] (.sl 0 0 (onK l h l.length).length) [.row 0 3 1 ((isort (tick l) (onK l h l.length)).map tI)] :=
  on_c l h hl2 fun k => sortStable_c _ _ _ _ _ k (by have := (onK_b l h l.length).1; have := hl2.1; omega) (on_cmp l _ fun z hz => (onK_b l h l.length).2 z hz) rfl (fun _ _ => .fnL .nil (.cons (.lpL (.cons (.ln _) .nil)) .nil))
end Go.Proofs.Ytkichjejadkdgaa
