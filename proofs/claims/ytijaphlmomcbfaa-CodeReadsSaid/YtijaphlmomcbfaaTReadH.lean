/- Halls, and cells, of words: code.Read, ReadCells. -/
import Derived.Test.YtijaphlmomcbfaaTRead
import Derived.Test.YtijaphlmomcbfaaTPutH
namespace Go.Proofs.Ytijaphlmomcbfaa
set_option linter.unusedVariables false
set_option linter.unusedSimpArgs false
set_option linter.unnecessarySimpa false
open Go.RowKit
set_option maxHeartbeats 32000000
attribute [local irreducible] AL AW RG Fin C Cd Cio thenQ blockQ retQ
set_option maxRecDepth 100000
set_option maxHeartbeats 4000000 in
theorem equalU_c (a b : List Int) (ha : a.length ≤ 1152921504606846976) : Cd Try.prog 102 [.ln (a.map tU), .ln (b.map tU)] (bo (decide (a = b))) [] := by
  have h1 : (a.map tU).length = a.length := List.length_map _
  have h2 : (b.map tU).length = b.length := List.length_map _
  refine Cd.enter' Try.func102 rfl Try.ntmps102 rfl ?_
  repeat' (first | ((with_reducible refine kAL ?_); (first | refine A_as rfl rfl rfl rfl ?_ | (refine kL 0 rfl ?_; (first | refine A_mt rfl rfl rfl rfl ?_ | refine A_move rfl rfl _ (.inl rfl) (y := .ln _) rfl ?_)) | refine A_len rfl rfl 37 _ rfl ud37 rfl ?_ | refine A_cmp (d := 10) rfl rfl .neq 3 3 _ _ rfl rfl rfl rfl ?_ | refine AL.nil ?_)) | (with_reducible (first | refine wk0 ?_ | refine wk1 ?_ | refine wk2 ?_ | refine wk3 ?_ | refine wk9 ?_ | refine wkb ?_ | refine wkd ?_)) | refine kcp rfl (fun hc => ?_) (fun hc => ?_) | with_reducible refine AW.at_region _ ?_)
  · refine Fin.q Try.results102 (.cons (.tmp rfl) .nil) [] (hr := (.t ?_))
    have : a ≠ b := by rintro rfl; exact hc rfl
    simp [this]
  · refine AW.loopP (fun (i : Nat) => ∀ j, j < i → a.getD j 0 = b.getD j 0) (fun (i : Nat) => (pu (pu (pu (pu (pu (fun _ => .any) 0 (.ln (a.map tU))) 1 (.ln (b.map tU))) 4 (.t (.v (.bool false)))) 12 (i64 (a.map tU).length)) 13 (i64 i))) (fun (i : Nat) => []) (fun (i : Nat) => a.length + 1 - i) (0) ?_ ?_ ?_
    · intro j hj; omega
    · exact Wk.cq 0
    · intro i hi
      repeat' (first | ((with_reducible refine kAL ?_); (first | refine A_as rfl rfl rfl rfl ?_ | refine A_mt rfl rfl rfl rfl ?_ | (refine kL 105 rfl ?_; (first | refine A_add rfl rfl 3 3 _ _ rfl rfl rfl (by first | exact wi | rfl) ?_ | refine A_cmp (d := 14) rfl rfl .lss 3 3 _ _ rfl rfl rfl rfl ?_)) | refine AL.nil ?_)) | ((with_reducible refine kRG ?_); (first | (refine kR 0 rfl ?_; (first | refine R_mt rfl rfl rfl rfl ?_ | refine R_move rfl rfl _ (.inl rfl) (y := .ln _) rfl ?_)) | (refine kR 1190 rfl ?_; refine R_idx rfl rfl 37 _ _ rfl ud37 inf84 (by decide) (by exact .inl rfl) rfl (by omega) _ (by with_reducible exact Int.toNat_natCast _) (by exact map_get (get_D (x := 0) (by omega))) rfl (cs' := [_]) rfl ?_) | refine R_load_lp rfl rfl 84 _ rfl ud84 rfl rfl rfl ?_ | refine R_cmp (d := 24) rfl rfl .neq 84 84 _ _ rfl rfl rfl rfl ?_ | refine RG.nil ⟨by kernel_rfl, ?_⟩)) | (with_reducible (first | refine wk0 ?_ | refine wk1 ?_ | refine wk2 ?_ | refine wk3 ?_ | refine wk4 ?_ | refine wk5 ?_ | refine wk6 ?_ | refine wk7 ?_ | refine wk9 ?_ | refine wkb ?_ | refine wkc ?_ | refine wkd ?_)) | refine kcp rfl (fun hc => ?_) (fun hc => ?_) | with_reducible refine AW.at_region _ ?_ | refine AW.at_draw 6 mixed 0 [[], [], [0, 1], [0, 1, 2], [], [], [4, 5], [4, 5, 6], [0, 1, 2, 3, 4, 5, 6, 7]] qR ?_)
      · refine Fin.q Try.results102 (.cons (.tmp rfl) .nil) [] (hr := (.t ?_))
        have : a ≠ b := by rintro rfl; exact hc rfl
        simp [this]
      · refine ⟨i + 1, fun j hj => ?_, by omega, ?_⟩
        · by_cases e : j = i
          · subst e; exact Decidable.not_not.1 hc
          · exact hi j (by omega)
        · exact Wk.cq 0
      · refine Fin.q Try.results102 (.cons (.tmp rfl) .nil) [] (hr := (.t ?_))
        have : a = b := all_eq (z := 0) (by omega) fun j hj => hi j (by omega)
        simp [this]
theorem rdCs_succ (n : Nat) (l : List Int) (i : Nat) : rdCs n l (i + 1) = rdCs n l i ++ [rdC n (l.drop (i * (n + 1)))] := by unfold rdCs; rw [List.range_succ]; simp
theorem rdWs_succ (l : List Int) (i : Nat) : rdWs l (i + 1) = rdWs l i ++ [rdW (l.drop (i * 4))] := by unfold rdWs; rw [List.range_succ]; simp
theorem rdCs_len (n : Nat) (l : List Int) (i : Nat) : (rdCs n l i).length = i := by simp [rdCs]
theorem rdWs_len (l : List Int) (i : Nat) : (rdWs l i).length = i := by simp [rdWs]
theorem okH_raw (c : DConf) (l : List Int) (h : l.length ≤ 1000000) (h1 : c.chans.toNat ≤ 1000000) (h2 : c.threads.toNat ≤ 1000000) : okH (rawH c l) := by
  refine ⟨?_, fun x hx => ?_, ?_, fun x hx => ?_, ?_⟩
  · show (rdCs _ _ _).length ≤ _; rw [rdCs_len]; omega
  · obtain ⟨i, _, rfl⟩ := List.mem_map.1 hx
    show (rdRow _ _ _).length ≤ _
    unfold rdRow; simp; omega
  · show (rdWs _ _).length ≤ _; rw [rdWs_len]; omega
  · obtain ⟨i, _, rfl⟩ := List.mem_map.1 hx
    show (((List.take _ _).map rdK).length) ≤ _
    simp; omega
  · show (rdRs _ _).length ≤ _; unfold rdRs; simp; omega
theorem mayH_no {c : DConf} {l : List Int} (h : ¬ (chkC c = true ∧ c.kind = 3 ∧ (l.length : Int) = sizeC c)) : mayH c l = false := by
  unfold mayH
  cases hk : chkC c
  · rfl
  · by_cases k : c.kind = 3
    · have : ¬ (l.length : Int) = sizeC c := fun e => h ⟨hk, k, e⟩
      rw [decide_eq_false this]; simp
    · rw [decide_eq_false k]; rfl
theorem mayH_yes {c : DConf} {l : List Int} (hk : chkC c = true) (k : c.kind = 3) (e : (l.length : Int) = sizeC c) : mayH c l = decide (putH c (rawH c l) = l) := by
  unfold mayH; rw [hk, decide_eq_true k, decide_eq_true e]; rfl
theorem noH_of {c : DConf} {l : List Int} (h : mayH c l = false) : readH c l = noH := by unfold readH; rw [h]; rfl
theorem rawH_of {c : DConf} {l : List Int} (h : mayH c l = true) : readH c l = rawH c l := by unfold readH; rw [h]; rfl
abbrev cfCs (c : DConf) : List AV := [i64 c.kind, i64 c.threads, i64 c.chans, i64 c.cap, i64 c.nodes, i64 c.retire, i64 c.patience, i64 c.tags, i64 c.seqs, i64 c.gens, .ln (c.start.map tI)]
set_option maxHeartbeats 16000000 in
theorem readH_c (c : DConf) (l : List Int) (hs : c.start.length ≤ 1152921504606846976) (hU : okU l) (hl0 : l.length ≤ 1152921504606846976) : Cd Try.prog 25 [aCf c, fU l] (.tup [fHl (readH c l), bo (mayH c l)]) [] := by
  have c1 := check_c c hs
  have c2 := size_c c hs
  have g1 : (l.map tU).length = l.length := List.length_map _
  by_cases hA : chkC c = true ∧ c.kind = 3 ∧ (l.length : Int) = sizeC c
  · obtain ⟨h0, h1, h2⟩ := hA
    rw [h0] at c1
    have hsh := chkC_shaped h0
    have hb := hsh.h3 h1
    have ht0 := hsh.t0
    have ht1 := hsh.t1
    obtain ⟨n, hn⟩ : ∃ n : Nat, c.cap = n := ⟨c.cap.toNat, by omega⟩
    obtain ⟨m, hm⟩ : ∃ m : Nat, c.chans = m := ⟨c.chans.toNat, by omega⟩
    obtain ⟨t, ht⟩ : ∃ t : Nat, c.threads = t := ⟨c.threads.toNat, by omega⟩
    have hlen : l.length = 1 + m * (n + 1) + t * 4 + t := by
      have h3 := h2
      rw [sizeC_H h0 h1, hn, hm, ht] at h3
      have e : ((m * (n + 1) : Nat) : Int) = (m : Int) * (1 + n) := by rw [Int.natCast_mul]; congr 1; omega
      omega
    have hmn : m * (n + 1) ≤ 72 := Nat.le_trans (Nat.mul_le_mul (show m ≤ 8 by omega) (show n + 1 ≤ 9 by omega)) (by decide)
    have hl : l.length ≤ 1000000 := by omega
    have hmul : ∀ i, i ≤ m → i * (n + 1) ≤ m * (n + 1) := fun i hi => Nat.mul_le_mul_right _ hi
    have hN := rnext_c l hl0
    have hb0 := okU_headD hU
    have hraw : rawH c l = ⟨l.headD 0 % 4294967296, rdCs n (l.drop 1) m, rdWs (l.drop (1 + m * (n + 1))) t, rdRs (l.drop (1 + m * (n + 1) + t * 4)) t⟩ := by unfold rawH; rw [hn, hm, ht]; rfl
    have cP := putH_c c (rawH c l) hs (okH_raw c l hl (by omega) (by omega))
    have hpl : (putH c (rawH c l)).length ≤ 1152921504606846976 := by
      cases hf : fitsH c (rawH c l)
      · unfold putH; rw [hf]; exact Nat.zero_le _
      · have := putH_len hf; omega
    have cE := equalU_c (putH c (rawH c l)) l hpl
    have hmay := mayH_yes h0 h1 h2
    rw [hraw] at cP
    first | refine Cd.enter' Try.func25 rfl Try.ntmps25 rfl ?_ | refine Cio.enter' Try.func25 rfl Try.ntmps25 rfl qM ?_ | refine C.enter' Try.func25 rfl Try.ntmps25 rfl qM ?_
    repeat' (first | ((with_reducible refine kAL ?_); (first | refine A_box rfl rfl 24 _ rfl rfl (.push qL qN) ?_ | refine A_alloc rfl rfl 34 rfl inf34 (cs := [.t (.v (.int .i64 0)), AV.nl, AV.nl, AV.nl]) rfl (.push qL qN) ?_ | (refine kL 1 rfl ?_; (first | refine A_as rfl rfl rfl rfl ?_ | refine A_move rfl rfl _ (.inr rfl) (y := .ptr _ _) rfl ?_)) | refine A_load_agg rfl rfl 24 _ rfl ud24 rfl inf24 rfl rfl (us' := [_, _, _, _, _, _, _, _, _, _, _]) rfl rfl ?_ | (refine kL 426 rfl ?_; refine A_cl rfl rfl Try.func13 rfl (c1) ?_) | refine A_cmp (d := 10) rfl rfl .neq 25 25 _ _ rfl rfl rfl rfl ?_ | (refine kL 0 rfl ?_; (first | refine A_mt rfl rfl rfl rfl ?_ | refine A_move rfl rfl _ (.inl rfl) (y := .ptr _ _) rfl ?_)) | (refine kL 772 rfl ?_; (first | refine A_field rfl rfl 24 _ 0 rfl ud24 rfl inf3 (by decide) 0 rfl rfl ?_ | refine A_field rfl rfl 24 _ 2 rfl ud24 rfl inf3 (by decide) 2 rfl rfl ?_)) | refine A_load rfl rfl 3 _ rfl ud3 rfl rfl rfl rfl ?_ | (refine kL 105 rfl ?_; (first | refine A_cmp (d := 14) rfl rfl (c := false) .neq 3 3 _ _ rfl rfl rfl (by exact congrArg some (decide_eq_false (by (try (dsimp only; fail_if_success done)); omega))) ?_ | refine A_cmp (d := 21) rfl rfl (c := false) .neq 3 3 _ _ rfl rfl rfl (by exact congrArg some (decide_eq_false (by (try (dsimp only; fail_if_success done)); omega))) ?_)) | (refine kL 19 rfl ?_; refine A_pkf rfl rfl _ _ _ rfl rfl rfl ?_) | refine A_len rfl rfl 37 _ rfl ud37 rfl ?_ | (refine kL 554 rfl ?_; refine A_cl rfl rfl Try.func17 rfl (c2) ?_) | (refine kL 1102 rfl ?_; refine A_build rfl rfl 34 _ rfl ud34 inf34 [(0, 1), (1, 1), (2, 1), (3, 1)] (by kernel_rfl) (zs := [.t (.v (.int .i64 0)), AV.nl, AV.nl, AV.nl]) rfl (.cons rfl .nil) (cs := [_, _, _, _]) rfl ?_) | refine A_store rfl rfl 34 _ _ rfl inf34 rfl rfl rfl rfl (Nat.le_of_ble_eq_true rfl) qN qN ?_ | (refine kL 3566 rfl ?_; refine A_build rfl rfl 111 _ rfl ud111 inf111 [(0, 1)] (by kernel_rfl) (zs := [AV.nl]) rfl (.cons rfl .nil) (cs := [_]) rfl ?_) | refine A_box rfl rfl 111 _ rfl rfl (.push qL qN) ?_ | (refine kL 3146 rfl ?_; refine A_callio rfl rfl Try.func98 (by kernel_rfl) (by kernel_rfl) rfl [2] (by decide) (hN) (by repeat (first | exact .nil | refine .cons rfl ?_ ?_ | refine .box ?_ | (first | refine .cons ?_ ?_ | exact .t _))) (by ((repeat (first | exact .nil | exact .ptr rfl | refine .cons ?_ ?_)); (first | done | fail))) qL (by (try simp only [setSel, upO, upA, upF, gIO, List.map_cons, List.map_nil, List.drop_succ_cons, List.drop_zero, List.drop_nil, List.length_cons, List.length_nil, List.set_cons_zero, List.set_cons_succ, List.cons_append, List.nil_append, List.append_nil, List.getElem?_cons_zero, List.getElem?_cons_succ, List.getElem?_nil, Nat.zero_add, Nat.reduceAdd, Nat.reduceSub]); rfl) (by (try simp only [setSel, upO, upA, upF, gIO, List.map_cons, List.map_nil, List.drop_succ_cons, List.drop_zero, List.drop_nil, List.length_cons, List.length_nil, List.set_cons_zero, List.set_cons_succ, List.cons_append, List.nil_append, List.append_nil, List.getElem?_cons_zero, List.getElem?_cons_succ, List.getElem?_nil, Nat.zero_add, Nat.reduceAdd, Nat.reduceSub]); rfl) ?_) | (refine kL 2697 rfl ?_; refine A_bits rfl rfl .and 84 84 _ _ rfl rfl rfl rfl (and_lit 32 (M := 4294967296) rfl rfl (by omega) (by omega) (by omega)) ?_) | refine A_conv rfl rfl 84 3 _ rfl ud84 ud3 rfl (by exact wi) ?_ | refine AL.nil ?_)) | (with_reducible (first | refine wk0 ?_ | refine wk1 ?_ | refine wk2 ?_ | refine wkd ?_)) | refine kcf rfl ?_ | with_reducible refine AW.at_region _ ?_)
    all_goals first | (exfalso; omega) | skip
    refine AW.wk (Wk.ownB 3 1 rfl rfl 83 5 (.push rfl rfl) rfl) ?_
    refine AW.loopP (fun (i : Nat) => i ≤ m) (fun (i : Nat) => (pu (pu (pu (pu (pu (pu (pu (fun _ => .any) 1 (fU l)) 2 (.ptr 0 0)) 4 (.ptr 1 0)) 6 (.ptr 2 0)) 7 (.ptr 3 0)) 33 (i64 c.chans)) 34 (i64 i))) (fun (i : Nat) => [.box 24 (cfCs c), .box 34 [i64 0, .nl, .nl, .nl], aRd (l.drop (1 + i * (n + 1))), .box 34 [i64 (l.headD 0 % 4294967296), .sl 4 i i, .nl, .nl], .row i 83 5 ((rdCs n (l.drop 1) i).map tCh)]) (fun (i : Nat) => m - i) (0) ?_ ?_ ?_
    · exact Nat.zero_le _
    · rw [Nat.zero_mul]
      exact Wk.cq 5
    · intro i h3
      have hL := rdCs_len n (l.drop 1) i
      have hLt : (rdCs n l.tail i).length = i := rdCs_len n l.tail i
      have hM := hmul i h3
      by_cases hi : i < m
      · have hM1 := hmul (i + 1) hi
        have e1 : 1 + (i + 1) * (n + 1) = 1 + i * (n + 1) + (n + 1) := by rw [Nat.succ_mul]; omega
        have cC := rchan_c c n hn l hU (1 + i * (n + 1)) (by omega) hl
        have hsx := rdCs_succ n (l.drop 1) i
        rw [List.drop_drop] at hsx
        repeat' (first | ((with_reducible refine kAL ?_); (first | refine A_mt rfl rfl rfl rfl ?_ | (refine kL 105 rfl ?_; (first | refine A_cmp (d := 35) rfl rfl (c := true) .lss 3 3 _ _ rfl rfl rfl (by exact congrArg some (decide_eq_true (by (try (dsimp only; fail_if_success done)); omega))) ?_ | refine A_add rfl rfl 3 3 _ _ rfl rfl rfl (by exact wi) ?_)) | refine AL.nil ?_)) | ((with_reducible refine kRG ?_); (first | refine R_field rfl rfl 34 _ 1 rfl ud34 rfl inf30 (by decide) 1 rfl rfl ?_ | refine R_load rfl rfl 30 _ rfl ud30 rfl rfl rfl rfl ?_ | refine R_move rfl rfl _ (.inl rfl) (y := .ptr _ _) rfl ?_ | refine R_load_agg rfl rfl 24 _ rfl ud24 rfl inf24 rfl rfl (us' := [_, _, _, _, _, _, _, _, _, _, _]) rfl rfl ?_ | (refine kR 3178 rfl ?_; refine R_callio rfl rfl Try.func99 rfl [2] (cC) (by kernel_rfl) (by kernel_rfl) (by decide) rfl rfl (by intro h' hh; repeat (first | exact .nil | (apply PassH.cons; exact (hh _ rfl).trans rfl) | refine .box ?_ | (first | refine .cons ?_ ?_ | exact .t _))) (by intro h' hh; ((repeat (first | exact .nil | exact .ptr rfl | refine .cons ?_ ?_ | exact .t _ | refine .aggL ?_ | exact .ln _)); (first | done | fail))) qL (by (try simp only [setSel, setAll, List.zip_cons_cons, List.zip_nil_right, List.zip_nil_left, upO, upA, upF, gIO, List.map_cons, List.map_nil, List.drop_succ_cons, List.drop_zero, List.drop_nil, List.length_cons, List.length_nil, List.set_cons_zero, List.set_cons_succ, List.cons_append, List.nil_append, List.append_nil, List.getElem?_cons_zero, List.getElem?_cons_succ, List.getElem?_nil, Nat.zero_add, Nat.reduceAdd, Nat.reduceSub]); rfl) (by (try simp only [setSel, setAll, List.zip_cons_cons, List.zip_nil_right, List.zip_nil_left, upO, upA, upF, gIO, List.map_cons, List.map_nil, List.drop_succ_cons, List.drop_zero, List.drop_nil, List.length_cons, List.length_nil, List.set_cons_zero, List.set_cons_succ, List.cons_append, List.nil_append, List.append_nil, List.getElem?_cons_zero, List.getElem?_cons_succ, List.getElem?_nil, Nat.zero_add, Nat.reduceAdd, Nat.reduceSub]); rfl) (by (try simp only [setSel, setAll, List.zip_cons_cons, List.zip_nil_right, List.zip_nil_left, upO, upA, upF, gIO, List.map_cons, List.map_nil, List.drop_succ_cons, List.drop_zero, List.drop_nil, List.length_cons, List.length_nil, List.set_cons_zero, List.set_cons_succ, List.cons_append, List.nil_append, List.append_nil, List.getElem?_cons_zero, List.getElem?_cons_succ, List.getElem?_nil, Nat.zero_add, Nat.reduceAdd, Nat.reduceSub]); rfl) ?_) | (refine kR 975 rfl ?_; refine R_lit (N := 5) rfl rfl 30 1 _ rfl ud30 inf83 (.cons rfl .nil) (els := [[_, _, _, _, _]]) rfl (by exact (rfl : _ = List.map tCh [⟨_, _, _, _, _⟩])) rfl (Nat.ne_of_beq_eq_false rfl) (Nat.le_of_ble_eq_true rfl) (Nat.le_of_ble_eq_true rfl) rfl qN ?_) | (refine kR 12 rfl ?_; refine R_append rfl rfl _ _ 30 rfl ud30 inf83 rfl rfl rfl (by (simp; omega)) (by exact .all rfl (by rfl)) qB qB (by exact app_one (f := tCh) (x := ⟨_, _, _, _, _⟩) (by omega)) qN qS ?_) | refine R_store rfl rfl 30 _ _ rfl inf30 rfl rfl rfl rfl (Nat.le_of_ble_eq_true rfl) qN qN ?_ | refine RG.nil ⟨by kernel_rfl, ?_⟩)) | (with_reducible (first | refine wk0 ?_ | refine wk1 ?_ | refine wk2 ?_ | refine wk5 ?_ | refine wkd ?_)) | refine kct rfl ?_ | with_reducible refine AW.at_region _ ?_ | refine AW.at_draw 7 mixed 2 [[], [0], [], [], [2, 3], [2, 3, 4], [0, 1, 2, 3, 4, 5], [0, 1, 2, 3, 4, 5, 6], [0, 1, 2, 3, 4, 5, 6, 7]] qR ?_)
        all_goals first | (exfalso; omega) | skip
        refine ⟨i + 1, by omega, by omega, ?_⟩
        rw [hsx, e1]
        exact Wk.cq 5
      · obtain rfl : i = m := by omega
        refine AW.wk (Wk.freezeB 4 rfl 3 rfl (.cons (.same _) (.cons (.all (by first | rfl | (simp <;> fail) | (simp; omega))) (.cons (.same _) (.cons (.same _) (.nil))))) rfl) ?_
        repeat' (first | ((with_reducible refine kAL ?_); (first | refine A_mt rfl rfl rfl rfl ?_ | refine A_field rfl rfl 24 _ 1 rfl ud24 rfl inf3 (by decide) 1 rfl rfl ?_ | refine A_load rfl rfl 3 _ rfl ud3 rfl rfl rfl rfl ?_ | refine A_cmp (d := 35) rfl rfl (c := false) .lss 3 3 _ _ rfl rfl rfl (by exact congrArg some (decide_eq_false (by (try (dsimp only; fail_if_success done)); omega))) ?_ | refine AL.nil ?_)) | (with_reducible (first | refine wk0 ?_ | refine wk1 ?_ | refine wk2 ?_ | refine wk4 ?_ | refine wk7 ?_ | refine wkc ?_)) | refine kcf rfl ?_ | with_reducible refine AW.at_region _ ?_)
        all_goals first | (exfalso; omega) | skip
        refine AW.wk (Wk.ownB 3 2 rfl rfl 92 4 (.push rfl rfl) rfl) ?_
        refine AW.loopP (fun (j : Nat) => j ≤ t) (fun (j : Nat) => (pu (pu (pu (pu (pu (pu (pu (fun _ => .any) 1 (fU l)) 2 (.ptr 0 0)) 4 (.ptr 1 0)) 6 (.ptr 2 0)) 7 (.ptr 3 0)) 46 (i64 c.threads)) 47 (i64 j))) (fun (j : Nat) => [.box 24 (cfCs c), .box 34 [i64 0, .nl, .nl, .nl], aRd (l.drop (1 + i * (n + 1) + j * 4)), .box 34 [i64 (l.headD 0 % 4294967296), .t (.lst ((rdCs n (l.drop 1) i).map tCh)), .sl 4 j j, .nl], .row j 92 4 ((rdWs (l.drop (1 + i * (n + 1))) j).map tWt)]) (fun (j : Nat) => t - j) (0) ?_ ?_ ?_
        · exact Nat.zero_le _
        · rw [Nat.zero_mul]
          exact Wk.cq3 [0, 1, 2, 3, 5]
        · intro j h4
          have hL2 := rdWs_len (l.drop (1 + i * (n + 1))) j
          by_cases hj : j < t
          · have e1 : 1 + i * (n + 1) + (j + 1) * 4 = 1 + i * (n + 1) + j * 4 + 4 := by omega
            have cW := rwait_c l hU (1 + i * (n + 1) + j * 4) (by omega) hl
            have hsx := rdWs_succ (l.drop (1 + i * (n + 1))) j
            rw [List.drop_drop] at hsx
            repeat' (first | ((with_reducible refine kAL ?_); (first | refine A_mt rfl rfl rfl rfl ?_ | (refine kL 105 rfl ?_; (first | refine A_add rfl rfl 3 3 _ _ rfl rfl rfl (by first | exact wi | rfl) ?_ | refine A_cmp (d := 48) rfl rfl (c := true) .lss 3 3 _ _ rfl rfl rfl (by exact congrArg some (decide_eq_true (by (try (dsimp only; fail_if_success done)); omega))) ?_)) | refine AL.nil ?_)) | ((with_reducible refine kRG ?_); (first | refine R_field rfl rfl 34 _ 2 rfl ud34 rfl inf31 (by decide) 2 rfl rfl ?_ | refine R_move rfl rfl _ (.inl rfl) (y := .ptr _ _) rfl ?_ | (refine kR 12 rfl ?_; refine R_append rfl rfl _ _ 31 rfl ud31 inf92 rfl rfl rfl (by (simp; omega)) (by exact .all rfl (by rfl)) qB qB (by exact app_one (f := tWt) (x := ⟨_, _, _, _⟩) (by omega)) qN qS ?_) | refine R_load rfl rfl 31 _ rfl ud31 rfl rfl rfl rfl ?_ | (refine kR 3210 rfl ?_; refine R_callio rfl rfl Try.func100 rfl [2] (cW) (by kernel_rfl) (by kernel_rfl) (by decide) rfl rfl (by intro h' hh; repeat (first | exact .nil | (apply PassH.cons; exact (hh _ rfl).trans rfl) | refine .box ?_ | (first | refine .cons ?_ ?_ | exact .t _))) (by intro h' hh; ((repeat (first | exact .nil | exact .ptr rfl | refine .cons ?_ ?_)); (first | done | fail))) qL (by (try simp only [setSel, setAll, List.zip_cons_cons, List.zip_nil_right, List.zip_nil_left, upO, upA, upF, gIO, List.map_cons, List.map_nil, List.drop_succ_cons, List.drop_zero, List.drop_nil, List.length_cons, List.length_nil, List.set_cons_zero, List.set_cons_succ, List.cons_append, List.nil_append, List.append_nil, List.getElem?_cons_zero, List.getElem?_cons_succ, List.getElem?_nil, Nat.zero_add, Nat.reduceAdd, Nat.reduceSub]); rfl) (by (try simp only [setSel, setAll, List.zip_cons_cons, List.zip_nil_right, List.zip_nil_left, upO, upA, upF, gIO, List.map_cons, List.map_nil, List.drop_succ_cons, List.drop_zero, List.drop_nil, List.length_cons, List.length_nil, List.set_cons_zero, List.set_cons_succ, List.cons_append, List.nil_append, List.append_nil, List.getElem?_cons_zero, List.getElem?_cons_succ, List.getElem?_nil, Nat.zero_add, Nat.reduceAdd, Nat.reduceSub]); rfl) (by (try simp only [setSel, setAll, List.zip_cons_cons, List.zip_nil_right, List.zip_nil_left, upO, upA, upF, gIO, List.map_cons, List.map_nil, List.drop_succ_cons, List.drop_zero, List.drop_nil, List.length_cons, List.length_nil, List.set_cons_zero, List.set_cons_succ, List.cons_append, List.nil_append, List.append_nil, List.getElem?_cons_zero, List.getElem?_cons_succ, List.getElem?_nil, Nat.zero_add, Nat.reduceAdd, Nat.reduceSub]); rfl) ?_) | (refine kR 1007 rfl ?_; refine R_lit (N := 5) rfl rfl 31 1 _ rfl ud31 inf92 (.cons rfl .nil) (els := [[_, _, _, _]]) rfl (by exact (rfl : _ = List.map tWt [⟨_, _, _, _⟩])) rfl (Nat.ne_of_beq_eq_false rfl) (Nat.le_of_ble_eq_true rfl) (Nat.le_of_ble_eq_true rfl) rfl qN ?_) | refine R_store rfl rfl 31 _ _ rfl inf31 rfl rfl rfl rfl (Nat.le_of_ble_eq_true rfl) qN qN ?_ | refine RG.nil ⟨by kernel_rfl, ?_⟩)) | (with_reducible (first | refine wk0 ?_ | refine wk1 ?_ | refine wk2 ?_ | refine wk5 ?_ | refine wkd ?_)) | refine kct rfl ?_ | with_reducible refine AW.at_region _ ?_ | refine AW.at_draw 11 mixed 2 [[], [0], [], [2], [2, 3], [0, 1, 2, 3, 4], [0, 1, 2, 3, 4, 5], [0, 1, 2, 3, 4, 5, 6]] qR ?_)
            all_goals first | (exfalso; omega) | skip
            refine ⟨j + 1, by omega, by omega, ?_⟩
            rw [hsx, e1]
            exact Wk.cq 5
          · obtain rfl : j = t := by omega
            refine AW.wk (Wk.freezeB 4 rfl 3 rfl (.cons (.same _) (.cons (.same _) (.cons (.all (by first | rfl | (simp <;> fail) | (simp; omega))) (.cons (.same _) (.nil))))) rfl) ?_
            have cR := rresR_n l hU c.threads j (1 + i * (n + 1) + j * 4) ht (by omega) hl
            by_cases e : putH c (rawH c l) = l
            · rw [decide_eq_true e] at cE hmay
              rw [rawH_of hmay, hmay, hraw]
              rw [hraw] at cE
              repeat' (first | ((with_reducible refine kAL ?_); (first | refine A_as rfl rfl rfl rfl ?_ | refine A_load_agg rfl rfl 24 _ rfl ud24 rfl inf24 rfl rfl (us' := [_, _, _, _, _, _, _, _, _, _, _]) rfl rfl ?_ | (refine kL 0 rfl ?_; (first | refine A_mt rfl rfl rfl rfl ?_ | refine A_move rfl rfl _ (.inl rfl) (y := .ptr _ _) rfl ?_)) | refine A_field rfl rfl 24 _ 1 rfl ud24 rfl inf3 (by decide) 1 rfl rfl ?_ | refine A_load rfl rfl 3 _ rfl ud3 rfl rfl rfl rfl ?_ | refine A_cmp (d := 48) rfl rfl (c := false) .lss 3 3 _ _ rfl rfl rfl (by exact congrArg some (decide_eq_false (by (try (dsimp only; fail_if_success done)); omega))) ?_ | refine A_store rfl rfl 34 _ _ rfl inf34 rfl rfl rfl rfl (Nat.le_of_ble_eq_true rfl) qN qN ?_ | (refine kL 3242 rfl ?_; refine A_callio rfl rfl Try.func101 (by kernel_rfl) (by kernel_rfl) rfl [2] (by decide) (cR) (by repeat (first | exact .nil | refine .cons rfl ?_ ?_ | refine .box ?_ | (first | refine .cons ?_ ?_ | exact .t _))) (by ((repeat (first | exact .nil | exact .ptr rfl | refine .cons ?_ ?_ | exact .t _)); (first | done | fail))) qL (by (try simp only [setSel, upO, upA, upF, gIO, List.map_cons, List.map_nil, List.drop_succ_cons, List.drop_zero, List.drop_nil, List.length_cons, List.length_nil, List.set_cons_zero, List.set_cons_succ, List.cons_append, List.nil_append, List.append_nil, List.getElem?_cons_zero, List.getElem?_cons_succ, List.getElem?_nil, Nat.zero_add, Nat.reduceAdd, Nat.reduceSub]); rfl) (by (try simp only [setSel, upO, upA, upF, gIO, List.map_cons, List.map_nil, List.drop_succ_cons, List.drop_zero, List.drop_nil, List.length_cons, List.length_nil, List.set_cons_zero, List.set_cons_succ, List.cons_append, List.nil_append, List.append_nil, List.getElem?_cons_zero, List.getElem?_cons_succ, List.getElem?_nil, Nat.zero_add, Nat.reduceAdd, Nat.reduceSub]); rfl) ?_) | refine A_field rfl rfl 34 _ 3 rfl ud34 rfl inf32 (by decide) 3 rfl rfl ?_ | refine A_store rfl rfl 32 _ _ rfl inf32 rfl rfl rfl rfl (Nat.le_of_ble_eq_true rfl) qN qN ?_ | refine A_load_agg rfl rfl 34 _ rfl ud34 rfl inf34 rfl rfl (us' := [_, _, _, _]) rfl rfl ?_ | (refine kL 746 rfl ?_; refine A_cl rfl rfl Try.func23 rfl (cP) ?_) | (refine kL 3274 rfl ?_; refine A_cl rfl rfl Try.func102 rfl (cE) ?_) | refine A_not rfl rfl _ _ rfl rfl ?_ | refine AL.nil ?_)) | (with_reducible (first | refine wk0 ?_ | refine wk2 ?_ | refine wk4 ?_ | refine wk7 ?_ | refine wk9 ?_ | refine wkb ?_ | refine wkc ?_ | refine wkd ?_)) | refine kcf rfl ?_ | with_reducible refine AW.at_region _ ?_)
              all_goals first | (exfalso; omega) | (exact Fin.q Try.results25 (.cons (.agg rfl rfl ud34 rfl inf34 (us := [_, _, _, _]) rfl rfl) (.cons (.tmp rfl) .nil)) [])
            · rw [decide_eq_false e] at cE hmay
              rw [noH_of hmay, hmay]
              rw [hraw] at cE
              repeat' (first | ((with_reducible refine kAL ?_); (first | (refine kL 1102 rfl ?_; (refine A_build (d := 68) rfl rfl 34 _ rfl ud34 inf34 [(0, 1), (1, 1), (2, 1), (3, 1)] (by kernel_rfl) (zs := [.t (.v (.int .i64 0)), AV.nl, AV.nl, AV.nl]) rfl .nil (cs := [_, _, _, _]) rfl ?_; (try refine AL.wk (Wk.nz 68 rfl (by exact .aggL (.cons (by exact .same _) (.cons (by exact .nlt) (.cons (by exact .nlt) (.cons (by exact .nlt) .nil)))))) ?_))) | refine A_as rfl rfl rfl rfl ?_ | refine A_load_agg rfl rfl 24 _ rfl ud24 rfl inf24 rfl rfl (us' := [_, _, _, _, _, _, _, _, _, _, _]) rfl rfl ?_ | (refine kL 0 rfl ?_; (first | refine A_mt rfl rfl rfl rfl ?_ | refine A_move rfl rfl _ (.inl rfl) (y := .ptr _ _) rfl ?_)) | refine A_field rfl rfl 24 _ 1 rfl ud24 rfl inf3 (by decide) 1 rfl rfl ?_ | refine A_load rfl rfl 3 _ rfl ud3 rfl rfl rfl rfl ?_ | refine A_cmp (d := 48) rfl rfl (c := false) .lss 3 3 _ _ rfl rfl rfl (by exact congrArg some (decide_eq_false (by (try (dsimp only; fail_if_success done)); omega))) ?_ | refine A_store rfl rfl 34 _ _ rfl inf34 rfl rfl rfl rfl (Nat.le_of_ble_eq_true rfl) qN qN ?_ | (refine kL 3242 rfl ?_; refine A_callio rfl rfl Try.func101 (by kernel_rfl) (by kernel_rfl) rfl [2] (by decide) (cR) (by repeat (first | exact .nil | refine .cons rfl ?_ ?_ | refine .box ?_ | (first | refine .cons ?_ ?_ | exact .t _))) (by ((repeat (first | exact .nil | exact .ptr rfl | refine .cons ?_ ?_ | exact .t _)); (first | done | fail))) qL (by (try simp only [setSel, upO, upA, upF, gIO, List.map_cons, List.map_nil, List.drop_succ_cons, List.drop_zero, List.drop_nil, List.length_cons, List.length_nil, List.set_cons_zero, List.set_cons_succ, List.cons_append, List.nil_append, List.append_nil, List.getElem?_cons_zero, List.getElem?_cons_succ, List.getElem?_nil, Nat.zero_add, Nat.reduceAdd, Nat.reduceSub]); rfl) (by (try simp only [setSel, upO, upA, upF, gIO, List.map_cons, List.map_nil, List.drop_succ_cons, List.drop_zero, List.drop_nil, List.length_cons, List.length_nil, List.set_cons_zero, List.set_cons_succ, List.cons_append, List.nil_append, List.append_nil, List.getElem?_cons_zero, List.getElem?_cons_succ, List.getElem?_nil, Nat.zero_add, Nat.reduceAdd, Nat.reduceSub]); rfl) ?_) | refine A_field rfl rfl 34 _ 3 rfl ud34 rfl inf32 (by decide) 3 rfl rfl ?_ | refine A_store rfl rfl 32 _ _ rfl inf32 rfl rfl rfl rfl (Nat.le_of_ble_eq_true rfl) qN qN ?_ | refine A_load_agg rfl rfl 34 _ rfl ud34 rfl inf34 rfl rfl (us' := [_, _, _, _]) rfl rfl ?_ | (refine kL 746 rfl ?_; refine A_cl rfl rfl Try.func23 rfl (cP) ?_) | (refine kL 3274 rfl ?_; refine A_cl rfl rfl Try.func102 rfl (cE) ?_) | refine A_not rfl rfl _ _ rfl rfl ?_ | refine AL.nil ?_)) | (with_reducible (first | refine wk0 ?_ | refine wk2 ?_ | refine wk3 ?_ | refine wk4 ?_ | refine wk7 ?_ | refine wk9 ?_ | refine wkb ?_ | refine wkc ?_)) | refine kct rfl ?_ | refine kcf rfl ?_ | with_reducible refine AW.at_region _ ?_)
              all_goals first | (exfalso; omega) | (exact Fin.q Try.results25 (.cons (.agg rfl rfl ud34 rfl inf34 (us := [_, _, _, _]) rfl rfl) (.cons (.tmp rfl) .nil)) [])
  · have hmay := mayH_no hA
    rw [noH_of hmay, hmay]
    cases h0 : chkC c
    · rw [h0] at c1
      first | refine Cd.enter' Try.func25 rfl Try.ntmps25 rfl ?_ | refine Cio.enter' Try.func25 rfl Try.ntmps25 rfl qM ?_ | refine C.enter' Try.func25 rfl Try.ntmps25 rfl qM ?_
      repeat' (first | ((with_reducible refine kAL ?_); (first | (refine kL 1102 rfl ?_; (refine A_build (d := 23) rfl rfl 34 _ rfl ud34 inf34 [(0, 1), (1, 1), (2, 1), (3, 1)] (by kernel_rfl) (zs := [.t (.v (.int .i64 0)), AV.nl, AV.nl, AV.nl]) rfl .nil (cs := [_, _, _, _]) rfl ?_; (try refine AL.wk (Wk.nz 23 rfl (by exact .aggL (.cons (by exact .same _) (.cons (by exact .nlt) (.cons (by exact .nlt) (.cons (by exact .nlt) .nil)))))) ?_))) | refine A_box rfl rfl 24 _ rfl rfl (.push qL qN) ?_ | refine A_alloc rfl rfl 34 rfl inf34 (cs := [.t (.v (.int .i64 0)), AV.nl, AV.nl, AV.nl]) rfl (.push qL qN) ?_ | refine A_as rfl rfl rfl rfl ?_ | refine A_load_agg rfl rfl 24 _ rfl ud24 rfl inf24 rfl rfl (us' := [_, _, _, _, _, _, _, _, _, _, _]) rfl rfl ?_ | (refine kL 426 rfl ?_; refine A_cl rfl rfl Try.func13 rfl (c1) ?_) | refine A_cmp (d := 10) rfl rfl .neq 25 25 _ _ rfl rfl rfl rfl ?_ | refine A_mt rfl rfl rfl rfl ?_ | (refine kL 19 rfl ?_; refine A_pkt rfl rfl _ _ _ rfl rfl rfl ?_) | refine A_store rfl rfl 34 _ _ rfl inf34 rfl rfl rfl rfl (Nat.le_of_ble_eq_true rfl) qN qN ?_ | refine AL.nil ?_ | refine AL.skip rfl rfl ?_)) | (with_reducible (first | refine wk0 ?_ | refine wk2 ?_ | refine wk3 ?_ | refine wk9 ?_ | refine wkb ?_)) | refine kct rfl ?_ | with_reducible refine AW.at_region _ ?_)
      all_goals first | (exfalso; omega) | (exact Fin.q Try.results25 (.cons (.agg rfl rfl ud34 rfl inf34 (us := [_, _, _, _]) rfl rfl) (.cons (.tmp rfl) .nil)) [])
    · rw [h0] at c1
      by_cases k : c.kind = 3
      · have e : ¬ (l.length : Int) = sizeC c := fun e => hA ⟨h0, k, e⟩
        first | refine Cd.enter' Try.func25 rfl Try.ntmps25 rfl ?_ | refine Cio.enter' Try.func25 rfl Try.ntmps25 rfl qM ?_ | refine C.enter' Try.func25 rfl Try.ntmps25 rfl qM ?_
        repeat' (first | ((with_reducible refine kAL ?_); (first | (refine kL 1102 rfl ?_; (refine A_build (d := 23) rfl rfl 34 _ rfl ud34 inf34 [(0, 1), (1, 1), (2, 1), (3, 1)] (by kernel_rfl) (zs := [.t (.v (.int .i64 0)), AV.nl, AV.nl, AV.nl]) rfl .nil (cs := [_, _, _, _]) rfl ?_; (try refine AL.wk (Wk.nz 23 rfl (by exact .aggL (.cons (by exact .same _) (.cons (by exact .nlt) (.cons (by exact .nlt) (.cons (by exact .nlt) .nil)))))) ?_))) | refine A_box rfl rfl 24 _ rfl rfl (.push qL qN) ?_ | refine A_alloc rfl rfl 34 rfl inf34 (cs := [.t (.v (.int .i64 0)), AV.nl, AV.nl, AV.nl]) rfl (.push qL qN) ?_ | refine A_as rfl rfl rfl rfl ?_ | refine A_load_agg rfl rfl 24 _ rfl ud24 rfl inf24 rfl rfl (us' := [_, _, _, _, _, _, _, _, _, _, _]) rfl rfl ?_ | (refine kL 426 rfl ?_; refine A_cl rfl rfl Try.func13 rfl (c1) ?_) | refine A_cmp (d := 10) rfl rfl .neq 25 25 _ _ rfl rfl rfl rfl ?_ | refine A_mt rfl rfl rfl rfl ?_ | refine A_field rfl rfl 24 _ 0 rfl ud24 rfl inf3 (by decide) 0 rfl rfl ?_ | refine A_load rfl rfl 3 _ rfl ud3 rfl rfl rfl rfl ?_ | (refine kL 105 rfl ?_; (first | refine A_cmp (d := 14) rfl rfl (c := false) .neq 3 3 _ _ rfl rfl rfl (by exact congrArg some (decide_eq_false (by (try (dsimp only; fail_if_success done)); omega))) ?_ | refine A_cmp (d := 21) rfl rfl (c := true) .neq 3 3 _ _ rfl rfl rfl (by exact congrArg some (decide_eq_true (by (try (dsimp only; fail_if_success done)); omega))) ?_)) | (refine kL 19 rfl ?_; refine A_pkf rfl rfl _ _ _ rfl rfl rfl ?_) | refine A_len rfl rfl 37 _ rfl ud37 rfl ?_ | (refine kL 554 rfl ?_; refine A_cl rfl rfl Try.func17 rfl (c2) ?_) | refine A_store rfl rfl 34 _ _ rfl inf34 rfl rfl rfl rfl (Nat.le_of_ble_eq_true rfl) qN qN ?_ | refine AL.nil ?_)) | (with_reducible (first | refine wk0 ?_ | refine wk2 ?_ | refine wk3 ?_ | refine wk9 ?_ | refine wkb ?_)) | refine kct rfl ?_ | with_reducible refine AW.at_region _ ?_)
        all_goals first | (exfalso; omega) | (exact Fin.q Try.results25 (.cons (.agg rfl rfl ud34 rfl inf34 (us := [_, _, _, _]) rfl rfl) (.cons (.tmp rfl) .nil)) [])
      · first | refine Cd.enter' Try.func25 rfl Try.ntmps25 rfl ?_ | refine Cio.enter' Try.func25 rfl Try.ntmps25 rfl qM ?_ | refine C.enter' Try.func25 rfl Try.ntmps25 rfl qM ?_
        repeat' (first | ((with_reducible refine kAL ?_); (first | (refine kL 1102 rfl ?_; (refine A_build (d := 23) rfl rfl 34 _ rfl ud34 inf34 [(0, 1), (1, 1), (2, 1), (3, 1)] (by kernel_rfl) (zs := [.t (.v (.int .i64 0)), AV.nl, AV.nl, AV.nl]) rfl .nil (cs := [_, _, _, _]) rfl ?_; (try refine AL.wk (Wk.nz 23 rfl (by exact .aggL (.cons (by exact .same _) (.cons (by exact .nlt) (.cons (by exact .nlt) (.cons (by exact .nlt) .nil)))))) ?_))) | refine A_box rfl rfl 24 _ rfl rfl (.push qL qN) ?_ | refine A_alloc rfl rfl 34 rfl inf34 (cs := [.t (.v (.int .i64 0)), AV.nl, AV.nl, AV.nl]) rfl (.push qL qN) ?_ | refine A_as rfl rfl rfl rfl ?_ | refine A_load_agg rfl rfl 24 _ rfl ud24 rfl inf24 rfl rfl (us' := [_, _, _, _, _, _, _, _, _, _, _]) rfl rfl ?_ | (refine kL 426 rfl ?_; refine A_cl rfl rfl Try.func13 rfl (c1) ?_) | refine A_cmp (d := 10) rfl rfl .neq 25 25 _ _ rfl rfl rfl rfl ?_ | refine A_mt rfl rfl rfl rfl ?_ | refine A_field rfl rfl 24 _ 0 rfl ud24 rfl inf3 (by decide) 0 rfl rfl ?_ | refine A_load rfl rfl 3 _ rfl ud3 rfl rfl rfl rfl ?_ | refine A_cmp (d := 14) rfl rfl (c := true) .neq 3 3 _ _ rfl rfl rfl (by exact congrArg some (decide_eq_true (by (try (dsimp only; fail_if_success done)); omega))) ?_ | (refine kL 19 rfl ?_; (first | refine A_pkt rfl rfl _ _ _ rfl rfl rfl ?_ | refine A_pkf rfl rfl _ _ _ rfl rfl rfl ?_)) | refine A_store rfl rfl 34 _ _ rfl inf34 rfl rfl rfl rfl (Nat.le_of_ble_eq_true rfl) qN qN ?_ | refine AL.nil ?_ | refine AL.skip rfl rfl ?_)) | (with_reducible (first | refine wk0 ?_ | refine wk2 ?_ | refine wk3 ?_ | refine wk9 ?_ | refine wkb ?_)) | refine kct rfl ?_ | with_reducible refine AW.at_region _ ?_)
        all_goals first | (exfalso; omega) | (exact Fin.q Try.results25 (.cons (.agg rfl rfl ud34 rfl inf34 (us := [_, _, _, _]) rfl rfl) (.cons (.tmp rfl) .nil)) [])
end Go.Proofs.Ytijaphlmomcbfaa
