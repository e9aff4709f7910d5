/- Who waits for a channel: waits.On, of few that wait. -/
import Derived.Test.YtkichjejadkdgaaTFirst
import Derived.Test.YtkichjejadkdgaaTSort
namespace Go.Proofs.Ytkichjejadkdgaa
set_option linter.unusedVariables false
set_option linter.unusedSimpArgs false
set_option linter.unnecessarySimpa false
open Go.RowKit
set_option maxHeartbeats 32000000
attribute [local irreducible] AL AW RG Fin C Cd Cio thenQ blockQ retQ
set_option maxRecDepth 100000
theorem containsF_c (f : FuncId) (fi cap : List AV) (p : DCase → Bool) (hg : ∀ c : DCase, CV Try.prog (.fn (.func f) fi cap) [.agg ((tCs c).map .t)] (.t (.v (.bool (p c)))) []) (hup : upB (keepG 0) (.fn (.func f) fi cap) = .fn (.func f) fi cap) (hps : ∀ heap sel, Pass heap sel (.fn (.func f) fi cap) (.fn (.func f) fi cap))
    (l : List DCase) (hl : l.length ≤ 1152921504606846976) : Cd Try.prog 92 [.ln (l.map tCs), .fn (.func f) fi cap] (bo (decide (0 ≤ ixF p l))) [] := by
  have c1 := idxF_c f fi cap p hg hup l hl
  refine Cd.enter' Try.func92 rfl Try.ntmps92 rfl ?_
  by_cases h : 0 ≤ ixF p l
  all_goals
    repeat' (first | ((with_reducible refine kAL ?_); (first | refine A_as rfl rfl rfl rfl ?_ | (refine kL 0 rfl ?_; (first | refine A_move rfl rfl _ (.inl rfl) (y := .ln _) rfl ?_ | refine A_move rfl rfl _ (.inl rfl) (y := .fn _ _ _) rfl ?_)) | (refine kL 3338 rfl ?_; refine A_cl rfl rfl Try.func104 rfl (c1) ?_) | (refine kL 105 rfl ?_; (first | refine A_cmp rfl rfl (c := true) .geq 3 3 _ _ rfl rfl rfl (by exact congrArg some (decide_eq_true (by (try (dsimp only; fail_if_success done)); omega))) ?_ | refine A_cmp rfl rfl (c := false) .geq 3 3 _ _ rfl rfl rfl (by exact congrArg some (decide_eq_false (by (try (dsimp only; fail_if_success done)); omega))) ?_)) | refine AL.nil ?_)) | with_reducible refine AW.at_region _ ?_ | (with_reducible (first | refine wk0 ?_ | refine wk2 ?_ | refine wk9 ?_ | refine wkb ?_)))
    all_goals first | (exfalso; omega) | (refine Fin.q Try.results92 (.cons (.tmp rfl) .nil) [] (hr := (.t ?_)))
    all_goals first | (simp [h]; done) | skip
def isH (h : Int) (c : DCase) : Bool := decide (c.handle = h)
theorem on1_c (h : Int) (c : DCase) : Cd Try.prog 93 [.agg ((tCs c).map .t), .lp [i64 h]] (bo (isH h c)) [] := by
  obtain ⟨a, b, v⟩ := c
  by_cases p2 : b = h
  all_goals
    refine Cd.enter' Try.func93 rfl Try.ntmps93 rfl ?_
    repeat' (first | ((with_reducible refine kAL ?_); (first | refine A_box rfl rfl 61 _ rfl rfl (.push qL qN) ?_ | refine A_as rfl rfl rfl rfl ?_ | refine A_field rfl rfl 61 _ 1 rfl ud61 rfl inf3 (by decide) 1 rfl rfl ?_ | (refine kL 98 rfl ?_; (first | refine A_load rfl rfl 3 _ rfl ud3 rfl rfl rfl rfl ?_ | refine A_load_lp rfl rfl 3 _ rfl ud3 rfl rfl rfl ?_)) | (refine kL 105 rfl ?_; (first | refine A_cmp rfl rfl (c := true) .eql 3 3 _ _ rfl rfl rfl (by exact congrArg some (decide_eq_true (by (try (dsimp only; fail_if_success done)); omega))) ?_ | refine A_cmp rfl rfl (c := false) .eql 3 3 _ _ rfl rfl rfl (by exact congrArg some (decide_eq_false (by (try (dsimp only; fail_if_success done)); omega))) ?_)) | refine AL.nil ?_)) | with_reducible refine AW.at_region _ ?_ | (with_reducible (first | refine wk0 ?_ | refine wk2 ?_ | refine wk9 ?_ | refine wkb ?_)))
    all_goals first | (exfalso; omega) | (refine Fin.q Try.results93 (.cons (.tmp rfl) .nil) [] (hr := (.t ?_)))
    all_goals first | (simp [isH, *]; done) | skip
theorem isNaN_c (x : Int) : Cd Try.prog 144 [i64 x] (bo false) [] := by
  refine Cd.enter' Try.func144 rfl Try.ntmps144 rfl ?_
  repeat' (first | ((with_reducible refine kAL ?_); (first | refine A_as rfl rfl rfl rfl ?_ | refine A_mt rfl rfl rfl rfl ?_ | refine A_cmp rfl rfl (c := false) .neq 3 3 _ _ rfl rfl rfl (by exact congrArg some (decide_eq_false (by (try (dsimp only; fail_if_success done)); omega))) ?_ | refine AL.nil ?_)) | with_reducible refine AW.at_region _ ?_ | (with_reducible (first | refine wk0 ?_ | refine wk2 ?_ | refine wk9 ?_ | refine wkb ?_)))
  all_goals (exact Fin.q Try.results144 (.cons (.tmp rfl) .nil) [])
def cmp3 (a b : Int) : Int := if a < b then -1 else if a > b then 1 else 0
theorem compare_c (a b : Int) : Cd Try.prog 96 [i64 a, i64 b] (i64 (cmp3 a b)) [] := by
  refine Cd.enter' Try.func96 rfl Try.ntmps96 rfl ?_
  repeat' (first | ((with_reducible refine kAL ?_); (first | refine A_as rfl rfl rfl rfl ?_ | refine A_mt rfl rfl rfl rfl ?_ | (refine kL 4618 rfl ?_; refine A_cl rfl rfl Try.func144 rfl (isNaN_c _) ?_) | (refine kL 105 rfl ?_; (first | refine A_cmp rfl rfl .lss 3 3 _ _ rfl rfl rfl rfl ?_ | refine A_cmp rfl rfl .gtr 3 3 _ _ rfl rfl rfl rfl ?_)) | refine AL.nil ?_)) | with_reducible refine AW.at_region _ ?_ | (with_reducible (first | refine wk0 ?_ | refine wk2 ?_ | refine wk3 ?_ | refine wk9 ?_ | refine wkb ?_ | refine wkd ?_)) | refine kcf rfl ?_ | refine kcp rfl (fun hc => ?_) (fun hc => ?_))
  · rw [show cmp3 a b = -1 from if_pos hc]
    exact Fin.q Try.results96 (.cons (.tmp rfl) .nil) []
  · rename_i h1
    rw [show cmp3 a b = 1 by unfold cmp3; rw [if_neg h1, if_pos hc]]
    exact Fin.q Try.results96 (.cons (.tmp rfl) .nil) []
  · rename_i h1
    rw [show cmp3 a b = 0 by unfold cmp3; rw [if_neg h1, if_neg hc]]
    exact Fin.q Try.results96 (.cons (.tmp rfl) .nil) []
theorem on2_c (l : List DWait) (x y : Nat) (a b : DWait) (ha : l[x]? = some a) (hb : l[y]? = some b) : Cd Try.prog 95 [i64 x, i64 y, .lp [.ln (l.map tWt)]] (i64 (cmp3 a.ticket b.ticket)) [] := by
  have h1 : (l.map tWt).length = l.length := List.length_map _
  have h2 := get_lt ha
  have h3 := get_lt hb
  refine Cd.enter' Try.func95 rfl Try.ntmps95 rfl ?_
  repeat' (first | ((with_reducible refine kAL ?_); (first | refine A_as rfl rfl rfl rfl ?_ | refine AL.nil ?_)) | ((with_reducible refine kRG ?_); (first | refine R_load_lp rfl rfl 47 _ rfl ud47 rfl rfl rfl ?_ | refine R_mt rfl rfl rfl rfl ?_ | (refine kR 1510 rfl ?_; refine R_idx rfl rfl 47 _ _ rfl ud47 inf50 (by decide) (by exact .inl rfl) rfl (by omega) _ (by with_reducible exact Int.toNat_natCast _) (by exact map_get (by assumption)) rfl (cs' := [_, _, _, _]) rfl ?_) | refine R_field rfl rfl 50 _ 1 rfl ud50 rfl inf3 (by decide) 1 rfl rfl ?_ | refine R_load_lp rfl rfl 3 _ rfl ud3 rfl rfl rfl ?_ | (refine kR 3082 rfl ?_; (refine R_cl rfl rfl Try.func96 rfl (compare_c a.ticket b.ticket) ?_; refine ⟨0, _, _, _, rfl, qU, qU, qZ, ?_⟩)) | refine R_as rfl rfl rfl rfl ?_ | refine RG.nil ⟨by kernel_rfl, ?_⟩)) | (with_reducible (first | refine wk0 ?_ | refine wk2 ?_ | refine wk9 ?_ | refine wkb ?_)) | with_reducible refine AW.at_region _ ?_ | refine AW.at_draw 1 mixed 0 [[], [], [0, 1], [0, 1, 2], [0, 1, 2, 3], [], [], [5, 6], [5, 6, 7], [5, 6, 7, 8], [0, 1, 2, 3, 4, 5, 6, 7, 8, 9], [0, 1, 2, 3, 4, 5, 6, 7, 8, 9, 10]] qR ?_)
  all_goals first | (exfalso; omega) | (exact Fin.q Try.results95 (.cons (.tmp rfl) .nil) [])
/-- a thread's ticket -/
def tick (l : List DWait) (t : Int) : Int := (l.getD t.toNat default).ticket
theorem on_cmp (l : List DWait) (O : List Int) (hO : ∀ z ∈ O, 0 ≤ z ∧ z < l.length) : CmpV (.fn (.func 95) [] [.lp [.ln (l.map tWt)]]) (tick l) O := fun x hx y hy => by
  obtain ⟨x1, x2⟩ := hO x hx
  obtain ⟨y1, y2⟩ := hO y hy
  obtain ⟨m, rfl⟩ : ∃ m : Nat, x = m := ⟨x.toNat, by omega⟩
  obtain ⟨n, rfl⟩ : ∃ n : Nat, y = n := ⟨y.toNat, by omega⟩
  obtain ⟨a, ha⟩ : ∃ a, l[m]? = some a := ⟨_, List.getElem?_eq_getElem (by omega)⟩
  obtain ⟨b, hb⟩ : ∃ b, l[n]? = some b := ⟨_, List.getElem?_eq_getElem (by omega)⟩
  refine ⟨cmp3 a.ticket b.ticket, ?_, ⟨_, _, [], [.lp [.ln (l.map tWt)]], rfl, Try.func95, by kernel_rfl, by kernel_rfl, fun _ => .nil, fun _ => .cons (.lpL (.cons (.ln _) .nil)) .nil, on2_c l m n a b ha hb⟩⟩
  unfold tick cmp3
  rw [Int.toNat_natCast, Int.toNat_natCast, getD_of ha, getD_of hb]
  repeat' split
  all_goals omega
end Go.Proofs.Ytkichjejadkdgaa
