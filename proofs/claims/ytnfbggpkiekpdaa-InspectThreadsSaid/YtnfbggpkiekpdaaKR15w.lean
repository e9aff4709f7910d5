/- Joined: XTBehind, XTCallD, XTReadCP, XTInspP. -/
import Derived.Test.YtnfbggpkiekpdaaKR15h
import Derived.Test.YtnfbggpkiekpdaaKR15i
import Derived.Test.YtnfbggpkiekpdaaKR15d
import Derived.Test.YtnfbggpkiekpdaaKR15m
import Derived.Test.YtnfbggpkiekpdaaKR15j
import Derived.Test.YtnfbggpkiekpdaaKR15p
namespace Go.Proofs.Ytnfbggpkiekpdaa
open Go.RowKit
set_option linter.unusedVariables false
set_option linter.unusedSimpArgs false
set_option linter.unnecessarySimpa false
set_option maxRecDepth 100000
set_option maxHeartbeats 64000000
section
attribute [local irreducible] AL AW RG Fin C Cd Cio thenQ blockQ retQ
set_option maxRecDepth 100000
def rankR (r : Rst) : Int := if r.code = 14 then 2 * r.seq else 2 * r.seq + 1
theorem pfinal_c (r : Rst) : Cd Try.prog 108 [aR r] (bo (decide (r.code ≠ 14))) [] := by
 refine Cd.enter' Try.func108 rfl Try.ntmps108 rfl ?_
 repeat' (first | refine uA ?_ | refine uC ?_ | fail)
 all_goals first | (exfalso; omega) | (exact Fin.q Try.results108 (.cons (.tmp rfl) .nil) [])
theorem prank_c (r : Rst) (h : 0 ≤ r.seq ∧ r.seq ≤ 1048576) : Cd Try.prog 95 [aR r] (i64 (rankR r)) [] := by
 have c1 := pfinal_c r
 unfold rankR
 by_cases k : r.code = 14
 ·rw [if_pos k]
  rw [decide_eq_false (by simp [k])] at c1
  refine Cd.enter' Try.func95 rfl Try.ntmps95 rfl ?_
  repeat' (first | ((with_reducible refine kAL ?_); (first | (refine kL 3466 rfl ?_; first | refine uK (c1) ?_) | refine uA ?_)) | refine uC ?_ | fail)
  all_goals first | (exfalso; omega) | (exact Fin.q Try.results95 (.cons (.tmp rfl) .nil) [])
 ·rw [if_neg k]
  rw [decide_eq_true k] at c1
  refine Cd.enter' Try.func95 rfl Try.ntmps95 rfl ?_
  repeat' (first | ((with_reducible refine kAL ?_); (first | (refine kL 3466 rfl ?_; first | refine uK (c1) ?_) | refine uA ?_)) | refine uC ?_ | fail)
  all_goals first | (exfalso; omega) | (exact Fin.q Try.results95 (.cons (.tmp rfl) .nil) [])
theorem seq_b {w : Int} (h : 0 ≤ w ∧ w ≤ 18446744073709551615) : 0 ≤ (readR w).seq ∧ (readR w).seq ≤ 1048576 := by unfold readR; dsimp only; omega
theorem pbehind_c (a b : Int) (ha : 0 ≤ a ∧ a ≤ 18446744073709551615) (hb : 0 ≤ b ∧ b ≤ 18446744073709551615) : Cd Try.prog 65 [u64 a, u64 b] (bo (decide (rankR (readR a) < rankR (readR b)))) [] := by
 have c1 := pread_c a ha
 have c2 := pread_c b hb
 have c3 := prank_c (readR a) (seq_b ha)
 have c4 := prank_c (readR b) (seq_b hb)
 generalize readR a = x at *
 generalize readR b = y at *
 generalize rankR x = p at *
 generalize rankR y = q at *
 by_cases h : p < q
 ·rw [decide_eq_true h]
  refine Cd.enter' Try.func65 rfl Try.ntmps65 rfl ?_
  repeat' (first | ((with_reducible refine kAL ?_); (first | (refine kL 1706 rfl ?_; first | refine uK (c1) ?_ | refine uK (c2) ?_) | (refine kL 3050 rfl ?_; first | refine uK (c3) ?_ | refine uK (c4) ?_) | refine uA ?_)) | refine uC ?_ | fail)
  all_goals first | (exfalso; omega) | (exact Fin.q Try.results65 (.cons (.tmp rfl) .nil) [])
 ·rw [decide_eq_false h]
  refine Cd.enter' Try.func65 rfl Try.ntmps65 rfl ?_
  repeat' (first | ((with_reducible refine kAL ?_); (first | (refine kL 1706 rfl ?_; first | refine uK (c1) ?_ | refine uK (c2) ?_) | (refine kL 3050 rfl ?_; first | refine uK (c3) ?_ | refine uK (c4) ?_) | refine uA ?_)) | refine uC ?_ | fail)
  all_goals first | (exfalso; omega) | (exact Fin.q Try.results65 (.cons (.tmp rfl) .nil) [])
end
section
attribute [local irreducible] AL AW RG Fin C Cd Cio thenQ blockQ retQ
set_option maxRecDepth 100000
theorem nat_bit (s x : Nat) (h : x % 2 ^ (s + 1) < 2 ^ s) : x ||| 2 ^ s = x + 2 ^ s := by
 have e : x = 2 ^ (s + 1) * (x / 2 ^ (s + 1)) + x % 2 ^ (s + 1) := (Nat.div_add_mod _ _).symm
 have h1 : (2 ^ (s + 1) * (x / 2 ^ (s + 1))) % 2 ^ (s + 1) = 0 := Nat.mul_mod_right _ _
 generalize 2 ^ (s + 1) * (x / 2 ^ (s + 1)) = H at *
 generalize x % 2 ^ (s + 1) = lo at *
 have h2 : 2 ^ (s + 1) = 2 * 2 ^ s := by rw [Nat.pow_succ, Nat.mul_comm]
 have a1 : H ||| lo = H + lo := nat_join (s + 1) H lo h1 (by omega)
 have a2 : 2 ^ s ||| lo = 2 ^ s + lo := nat_join s _ lo (Nat.mod_self _) h
 have a3 : H ||| (2 ^ s + lo) = H + (2 ^ s + lo) := nat_join (s + 1) H _ h1 (by omega)
 rw [e, ← a1, Nat.or_assoc, Nat.or_comm lo, a2, a3, a1]; omega
theorem or_bit (s : Nat) {a m M : Int} (hm : (2 : Int) ^ s = m) (hM : m + m = M) (h0 : 0 ≤ a) (hA : a < 18446744073709551616) (hB : m < 18446744073709551616) (h : a % M < m) : bits .or .u64 a m = a + m := by
 subst hM
 obtain ⟨x, rfl⟩ : ∃ x : Nat, a = x := ⟨a.toNat, by omega⟩
 have e : m = ((2 ^ s : Nat) : Int) := by rw [← hm]; simp
 subst e
 rw [u64_or _ _ h0 hA (Int.natCast_nonneg _) hB, Int.toNat_natCast, Int.toNat_natCast, nat_bit s x]
 ·rw [Int.natCast_add]
 ·have h2 : 2 ^ (s + 1) = 2 * 2 ^ s := by rw [Nat.pow_succ, Nat.mul_comm]
  rw [h2]
  have : ((x % (2 * 2 ^ s) : Nat) : Int) < ((2 ^ s : Nat) : Int) := by
   rw [Int.natCast_emod]
   have e3 : ((2 * 2 ^ s : Nat) : Int) = ((2 ^ s : Nat) : Int) + ((2 ^ s : Nat) : Int) := by omega
   rw [e3]; exact h
  exact_mod_cast this
def headQ (q : DReq) : Int := q.kind + 256 * q.cases.length + 65536 * q.arg + 4294967296 * q.value + 4096 * bitI q.dflt
def callD (q : DReq) (ph : Int) : List Int := headQ q :: (wpad (q.cases.map wordK) 3 ++ [ph])
theorem callD_W {q : DReq} (hd : q.dflt = false) (ph : Int) : callD q ph = callW q ph := by unfold callD headQ callW; rw [hd]; simp [bitI]
theorem pCallT_c (q : DReq) (ph : Int) (hq : fitQ q = true) (hd : q.dflt = true) (hp : 0 ≤ ph ∧ ph ≤ 4294967295) : Cd Try.prog 90 [aRq q, i64 ph] (.t (.lst ((callD q ph).map tU))) [] := by
 obtain ⟨g1, g2, g3, g4, g5⟩ := fitQ_iff.1 hq
 have c1 := pFits_c q (by omega)
 rw [hq] at c1
 have c2 := pfits_c ph 32 4294967296 (by decide) (by decide)
 rw [show fitI ph 4294967296 = true from decide_eq_true (by omega)] at c2
 have h1 : (q.cases.map tCs).length = q.cases.length := List.length_map _
 unfold callD headQ
 rw [wpad_eq (by simpa using g4), List.length_map]
 obtain ⟨kd, ar, vl, df, l⟩ := q
 dsimp only at *
 subst hd
 rw [show bitI true = 1 from rfl]
 generalize hH : kd + 256 * (l.length : Int) + 65536 * ar + 4294967296 * vl + 4096 * 1 = hd0
 have hH2 : kd + ((l.map tCs).length : Int) * 256 + ar * 65536 + vl * 4294967296 + 4096 = hd0 := by omega
 refine Cd.enter' Try.func90 rfl Try.ntmps90 rfl ?_
 repeat' (first | ((with_reducible refine kAL ?_); (first | (refine kL 3402 rfl ?_; first | refine uK (c1) ?_) | (refine kL 3434 rfl ?_; first | refine uK (c2) ?_) | (refine kL 12 rfl ?_; first | refine A_append_nlsub rfl rfl _ _ 25 rfl ud25 inf69 rfl rfl rfl rfl (by (try simp only [List.length_map, List.length_append, List.length_cons, List.length_nil]); omega) qB qB List.map_drop.symm (.push qL qN) ?_) | (refine kL 2217 rfl ?_; first | refine A_shl rfl rfl 69 78 _ _ rfl rfl rfl (by decide) (shl_lit (m := 256) rfl (by first | exact wi | exact wu)) ?_ | refine A_bits rfl rfl .or 69 69 _ _ rfl rfl rfl rfl (or_sum 8 (M := 256) rfl (by omega) (by omega) (by omega) (by omega) (by omega) (by omega)) ?_ | refine A_bits rfl rfl .or 69 69 _ _ rfl rfl rfl rfl (or_sum' 8 (M := 256) rfl (by omega) (by omega) (by omega) (by omega) (by omega) (by omega)) ?_ | refine A_bits rfl rfl .or 69 69 _ _ rfl rfl rfl rfl (or_sum 16 (M := 65536) rfl (by omega) (by omega) (by omega) (by omega) (by omega) (by omega)) ?_ | refine A_bits rfl rfl .or 69 69 _ _ rfl rfl rfl rfl (or_sum' 16 (M := 65536) rfl (by omega) (by omega) (by omega) (by omega) (by omega) (by omega)) ?_ | refine A_bits rfl rfl .or 69 69 _ _ rfl rfl rfl rfl (or_sum 32 (M := 4294967296) rfl (by omega) (by omega) (by omega) (by omega) (by omega) (by omega)) ?_ | refine A_bits rfl rfl .or 69 69 _ _ rfl rfl rfl rfl (or_sum' 32 (M := 4294967296) rfl (by omega) (by omega) (by omega) (by omega) (by omega) (by omega)) ?_ | refine A_shl rfl rfl 69 78 _ _ rfl rfl rfl (by decide) (shl_lit (m := 65536) rfl (by first | exact wi | exact wu)) ?_ | refine A_shl rfl rfl 69 78 _ _ rfl rfl rfl (by decide) (shl_lit (m := 4294967296) rfl (by first | exact wi | exact wu)) ?_ | refine A_bits rfl rfl .or 69 69 _ _ rfl rfl rfl rfl (or_bit 12 (m := 4096) (M := 8192) rfl rfl (by omega) (by omega) (by omega) (by omega)) ?_ | refine A_shl rfl rfl 69 78 _ _ rfl rfl rfl (by first | decide | omega) rfl ?_ | refine A_bits rfl rfl .or 69 69 _ _ rfl rfl rfl rfl rfl ?_) | (refine kL 815 rfl ?_; first | refine A_lit rfl rfl 25 1 _ rfl ud25 inf69 (.cons rfl .nil) (els := [[_]]) rfl (by first | exact (rfl : _ = List.map tU [_]) | exact qN) rfl (Nat.ne_of_beq_eq_false rfl) (Nat.le_of_ble_eq_true rfl) (Nat.le_of_ble_eq_true rfl) (.push qL qN) ?_) | refine uA ?_ | refine uS 12 (fun hb => ?_) (fun hb => ?_))) | refine uC ?_ | refine kcp rfl (fun hc => ?_) (fun hc => ?_) | refine kcn rfl (fun hc => ?_) (fun hc => ?_) | refine kcb rfl (fun hc => ?_) (fun hc => ?_) | refine kcc rfl (fun hc => ?_) (fun hc => ?_) | fail)
 all_goals first | (exfalso; omega) | skip
 refine AW.loopP (fun (i : Nat) => i ≤ l.length) (fun (i : Nat) => (pu (pu (pu (pu (pu (fun _ => .any) 1 (i64 ph)) 6 (.sl 1 i (1 + i))) 43 (.ln (l.map tCs))) 44 (i64 (l.map tCs).length)) 45 (i64 i))) (fun (i : Nat) => [.box 63 [i64 kd, i64 ar, i64 vl, bo true, .ln (l.map tCs)], .row i 69 1 ((callA hd0 l i).map tU)]) (fun (i : Nat) => l.length - i) (0) ?_ ?_ ?_
 ·exact Nat.zero_le _
 ·rw [show callA hd0 l 0 = [hd0] from rfl, ← hH2]
  exact Wk.cq 2
 ·intro i h2
  have hL : (callA hd0 l i).length = 1 + i := by simp [callA]; omega
  by_cases hi : i < l.length
  ·obtain ⟨a, ha⟩ : ∃ a, l[i]? = some a := ⟨_, List.getElem?_eq_getElem hi⟩
   have hk := caseOK_iff.1 (g5 a (List.mem_of_getElem? ha))
   have hw : wordK a = a.dir + a.handle * 256 + a.value * 4294967296 := by unfold wordK; omega
   have hs : callA hd0 l (i + 1) = callA hd0 l i ++ [a.dir + a.handle * 256 + a.value * 4294967296] := by unfold callA; rw [List.take_add_one, ha, ← hw]; simp
   repeat' (first | ((with_reducible refine kAL ?_); (first | (refine kL 12 rfl ?_; first | refine A_append_nlsub rfl rfl _ _ 25 rfl ud25 inf69 rfl rfl rfl rfl (by (try simp only [List.length_map, List.length_append, List.length_cons, List.length_nil]); omega) qB qB List.map_drop.symm (.push qL qN) ?_) | (refine kL 2217 rfl ?_; first | refine A_shl rfl rfl 69 78 _ _ rfl rfl rfl (by decide) (shl_lit (m := 256) rfl (by first | exact wi | exact wu)) ?_ | refine A_bits rfl rfl .or 69 69 _ _ rfl rfl rfl rfl (or_sum 8 (M := 256) rfl (by omega) (by omega) (by omega) (by omega) (by omega) (by omega)) ?_ | refine A_bits rfl rfl .or 69 69 _ _ rfl rfl rfl rfl (or_sum' 8 (M := 256) rfl (by omega) (by omega) (by omega) (by omega) (by omega) (by omega)) ?_ | refine A_bits rfl rfl .or 69 69 _ _ rfl rfl rfl rfl (or_sum 16 (M := 65536) rfl (by omega) (by omega) (by omega) (by omega) (by omega) (by omega)) ?_ | refine A_bits rfl rfl .or 69 69 _ _ rfl rfl rfl rfl (or_sum' 16 (M := 65536) rfl (by omega) (by omega) (by omega) (by omega) (by omega) (by omega)) ?_ | refine A_bits rfl rfl .or 69 69 _ _ rfl rfl rfl rfl (or_sum 32 (M := 4294967296) rfl (by omega) (by omega) (by omega) (by omega) (by omega) (by omega)) ?_ | refine A_bits rfl rfl .or 69 69 _ _ rfl rfl rfl rfl (or_sum' 32 (M := 4294967296) rfl (by omega) (by omega) (by omega) (by omega) (by omega) (by omega)) ?_ | refine A_shl rfl rfl 69 78 _ _ rfl rfl rfl (by decide) (shl_lit (m := 65536) rfl (by first | exact wi | exact wu)) ?_ | refine A_shl rfl rfl 69 78 _ _ rfl rfl rfl (by decide) (shl_lit (m := 4294967296) rfl (by first | exact wi | exact wu)) ?_ | refine A_shl rfl rfl 69 78 _ _ rfl rfl rfl (by first | decide | omega) rfl ?_ | refine A_bits rfl rfl .or 69 69 _ _ rfl rfl rfl rfl rfl ?_) | (refine kL 815 rfl ?_; first | refine A_lit rfl rfl 25 1 _ rfl ud25 inf69 (.cons rfl .nil) (els := [[_]]) rfl (by first | exact (rfl : _ = List.map tU [_]) | exact qN) rfl (Nat.ne_of_beq_eq_false rfl) (Nat.le_of_ble_eq_true rfl) (Nat.le_of_ble_eq_true rfl) (.push qL qN) ?_) | refine uA ?_ | refine uS 12 (fun hb => ?_) (fun hb => ?_))) | refine uC ?_ | refine kcp rfl (fun hc => ?_) (fun hc => ?_) | refine kcn rfl (fun hc => ?_) (fun hc => ?_) | refine kcb rfl (fun hc => ?_) (fun hc => ?_) | refine kcc rfl (fun hc => ?_) (fun hc => ?_) | fail)
   all_goals first | (exfalso; omega) | skip
   refine ⟨i + 1, by omega, by omega, ?_⟩
   rw [hs]
   exact Wk.cq 2
  ·obtain rfl : i = l.length := by omega
   repeat' (first | ((with_reducible refine kAL ?_); (first | (refine kL 12 rfl ?_; first | refine A_append_nlsub rfl rfl _ _ 25 rfl ud25 inf69 rfl rfl rfl rfl (by (try simp only [List.length_map, List.length_append, List.length_cons, List.length_nil]); omega) qB qB List.map_drop.symm (.push qL qN) ?_) | (refine kL 2217 rfl ?_; first | refine A_shl rfl rfl 69 78 _ _ rfl rfl rfl (by decide) (shl_lit (m := 256) rfl (by first | exact wi | exact wu)) ?_ | refine A_bits rfl rfl .or 69 69 _ _ rfl rfl rfl rfl (or_sum 8 (M := 256) rfl (by omega) (by omega) (by omega) (by omega) (by omega) (by omega)) ?_ | refine A_bits rfl rfl .or 69 69 _ _ rfl rfl rfl rfl (or_sum' 8 (M := 256) rfl (by omega) (by omega) (by omega) (by omega) (by omega) (by omega)) ?_ | refine A_bits rfl rfl .or 69 69 _ _ rfl rfl rfl rfl (or_sum 16 (M := 65536) rfl (by omega) (by omega) (by omega) (by omega) (by omega) (by omega)) ?_ | refine A_bits rfl rfl .or 69 69 _ _ rfl rfl rfl rfl (or_sum' 16 (M := 65536) rfl (by omega) (by omega) (by omega) (by omega) (by omega) (by omega)) ?_ | refine A_bits rfl rfl .or 69 69 _ _ rfl rfl rfl rfl (or_sum 32 (M := 4294967296) rfl (by omega) (by omega) (by omega) (by omega) (by omega) (by omega)) ?_ | refine A_bits rfl rfl .or 69 69 _ _ rfl rfl rfl rfl (or_sum' 32 (M := 4294967296) rfl (by omega) (by omega) (by omega) (by omega) (by omega) (by omega)) ?_ | refine A_shl rfl rfl 69 78 _ _ rfl rfl rfl (by decide) (shl_lit (m := 65536) rfl (by first | exact wi | exact wu)) ?_ | refine A_shl rfl rfl 69 78 _ _ rfl rfl rfl (by decide) (shl_lit (m := 4294967296) rfl (by first | exact wi | exact wu)) ?_ | refine A_shl rfl rfl 69 78 _ _ rfl rfl rfl (by first | decide | omega) rfl ?_ | refine A_bits rfl rfl .or 69 69 _ _ rfl rfl rfl rfl rfl ?_) | (refine kL 815 rfl ?_; first | refine A_lit rfl rfl 25 1 _ rfl ud25 inf69 (.cons rfl .nil) (els := [[_]]) rfl (by first | exact qN) rfl (Nat.ne_of_beq_eq_false rfl) (Nat.le_of_ble_eq_true rfl) (Nat.le_of_ble_eq_true rfl) (.push qL qN) ?_) | refine uA ?_ | refine uS 12 (fun hb => ?_) (fun hb => ?_))) | refine uC ?_ | refine kcp rfl (fun hc => ?_) (fun hc => ?_) | refine kcn rfl (fun hc => ?_) (fun hc => ?_) | refine kcb rfl (fun hc => ?_) (fun hc => ?_) | refine kcc rfl (fun hc => ?_) (fun hc => ?_) | fail)
   all_goals first | (exfalso; omega) | skip
   refine AW.loopP (fun (j : Nat) => l.length + j ≤ 3) (fun (j : Nat) => (pu (pu (fun _ => .any) 1 (i64 ph)) 6 (.sl 1 (l.length + j) (1 + l.length + j)))) (fun (j : Nat) => [.box 63 [i64 kd, i64 ar, i64 vl, bo true, .ln (l.map tCs)], .row (l.length + j) 69 1 ((callB hd0 l j).map tU)]) (fun (j : Nat) => 3 - j) (0) ?_ ?_ ?_
   ·omega
   ·rw [show callB hd0 l 0 = callA hd0 l l.length by simp [callA, callB]]
    exact Wk.cq 2
   ·intro j h3
    have hL2 : (callB hd0 l j).length = 1 + l.length + j := by simp [callB]; omega
    by_cases hj : l.length + j < 3
    ·have hs : callB hd0 l (j + 1) = callB hd0 l j ++ [0] := by unfold callB; rw [List.replicate_succ']; simp
     repeat' (first | ((with_reducible refine kAL ?_); (first | (refine kL 12 rfl ?_; first | refine A_append_nlsub rfl rfl _ _ 25 rfl ud25 inf69 rfl rfl rfl rfl (by (try simp only [List.length_map, List.length_append, List.length_cons, List.length_nil]); omega) qB qB List.map_drop.symm (.push qL qN) ?_) | (refine kL 2217 rfl ?_; first | refine A_shl rfl rfl 69 78 _ _ rfl rfl rfl (by decide) (shl_lit (m := 256) rfl (by first | exact wi | exact wu)) ?_ | refine A_bits rfl rfl .or 69 69 _ _ rfl rfl rfl rfl (or_sum 8 (M := 256) rfl (by omega) (by omega) (by omega) (by omega) (by omega) (by omega)) ?_ | refine A_bits rfl rfl .or 69 69 _ _ rfl rfl rfl rfl (or_sum' 8 (M := 256) rfl (by omega) (by omega) (by omega) (by omega) (by omega) (by omega)) ?_ | refine A_bits rfl rfl .or 69 69 _ _ rfl rfl rfl rfl (or_sum 16 (M := 65536) rfl (by omega) (by omega) (by omega) (by omega) (by omega) (by omega)) ?_ | refine A_bits rfl rfl .or 69 69 _ _ rfl rfl rfl rfl (or_sum' 16 (M := 65536) rfl (by omega) (by omega) (by omega) (by omega) (by omega) (by omega)) ?_ | refine A_bits rfl rfl .or 69 69 _ _ rfl rfl rfl rfl (or_sum 32 (M := 4294967296) rfl (by omega) (by omega) (by omega) (by omega) (by omega) (by omega)) ?_ | refine A_bits rfl rfl .or 69 69 _ _ rfl rfl rfl rfl (or_sum' 32 (M := 4294967296) rfl (by omega) (by omega) (by omega) (by omega) (by omega) (by omega)) ?_ | refine A_shl rfl rfl 69 78 _ _ rfl rfl rfl (by decide) (shl_lit (m := 65536) rfl (by first | exact wi | exact wu)) ?_ | refine A_shl rfl rfl 69 78 _ _ rfl rfl rfl (by decide) (shl_lit (m := 4294967296) rfl (by first | exact wi | exact wu)) ?_ | refine A_shl rfl rfl 69 78 _ _ rfl rfl rfl (by first | decide | omega) rfl ?_ | refine A_bits rfl rfl .or 69 69 _ _ rfl rfl rfl rfl rfl ?_) | (refine kL 815 rfl ?_; first | refine A_lit rfl rfl 25 1 _ rfl ud25 inf69 (.cons rfl .nil) (els := [[_]]) rfl (by first | exact (rfl : _ = List.map tU [_]) | exact qN) rfl (Nat.ne_of_beq_eq_false rfl) (Nat.le_of_ble_eq_true rfl) (Nat.le_of_ble_eq_true rfl) (.push qL qN) ?_) | refine uA ?_ | refine uS 12 (fun hb => ?_) (fun hb => ?_))) | refine uC ?_ | refine kcp rfl (fun hc => ?_) (fun hc => ?_) | refine kcn rfl (fun hc => ?_) (fun hc => ?_) | refine kcb rfl (fun hc => ?_) (fun hc => ?_) | refine kcc rfl (fun hc => ?_) (fun hc => ?_) | fail)
     all_goals first | (exfalso; omega) | skip
     refine ⟨j + 1, by omega, by omega, ?_⟩
     rw [hs]
     exact Wk.cq 2
    ·obtain rfl : j = 3 - l.length := by omega
     repeat' (first | ((with_reducible refine kAL ?_); (first | (refine kL 1 rfl ?_; first | ((first | refine A_as (d := 4) rfl rfl rfl rfl ?_ | refine A_move (d := 4) rfl rfl _ (.inr rfl) (y := .sl _ _ _) rfl ?_ | refine A_move (d := 4) rfl rfl _ (.inr rfl) (y := .nl) rfl ?_ | refine A_move (d := 4) rfl rfl _ (.inr rfl) (y := .ptr _ _) rfl ?_ | refine A_move (d := 4) rfl rfl _ (.inr rfl) (y := .ln _) rfl ?_ | refine A_move (d := 4) rfl rfl _ (.inr rfl) (y := .lp _) rfl ?_ | refine A_move (d := 4) rfl rfl _ (.inr rfl) (y := .fn _ _ _) rfl ?_ | refine A_move (d := 4) rfl rfl _ (.inr rfl) (y := .sub _ _ _ _) rfl ?_ | refine A_move (d := 4) rfl rfl _ (.inr rfl) (y := .rp _ _ _ _) rfl ?_ | refine A_move (d := 4) rfl rfl _ (.inr rfl) (y := .agg _) rfl ?_ | refine A_move (d := 4) rfl rfl _ (.inr rfl) (y := .tup _) rfl ?_); (try refine uf 1 4 ?_))) | (refine kL 12 rfl ?_; first | refine A_append_nlsub rfl rfl _ _ 25 rfl ud25 inf69 rfl rfl rfl rfl (by (try simp only [List.length_map, List.length_append, List.length_cons, List.length_nil]); omega) qB qB List.map_drop.symm (.push qL qN) ?_) | (refine kL 2217 rfl ?_; first | refine A_shl rfl rfl 69 78 _ _ rfl rfl rfl (by decide) (shl_lit (m := 256) rfl (by first | exact wi | exact wu)) ?_ | refine A_bits rfl rfl .or 69 69 _ _ rfl rfl rfl rfl (or_sum 8 (M := 256) rfl (by omega) (by omega) (by omega) (by omega) (by omega) (by omega)) ?_ | refine A_bits rfl rfl .or 69 69 _ _ rfl rfl rfl rfl (or_sum' 8 (M := 256) rfl (by omega) (by omega) (by omega) (by omega) (by omega) (by omega)) ?_ | refine A_bits rfl rfl .or 69 69 _ _ rfl rfl rfl rfl (or_sum 16 (M := 65536) rfl (by omega) (by omega) (by omega) (by omega) (by omega) (by omega)) ?_ | refine A_bits rfl rfl .or 69 69 _ _ rfl rfl rfl rfl (or_sum' 16 (M := 65536) rfl (by omega) (by omega) (by omega) (by omega) (by omega) (by omega)) ?_ | refine A_bits rfl rfl .or 69 69 _ _ rfl rfl rfl rfl (or_sum 32 (M := 4294967296) rfl (by omega) (by omega) (by omega) (by omega) (by omega) (by omega)) ?_ | refine A_bits rfl rfl .or 69 69 _ _ rfl rfl rfl rfl (or_sum' 32 (M := 4294967296) rfl (by omega) (by omega) (by omega) (by omega) (by omega) (by omega)) ?_ | refine A_shl rfl rfl 69 78 _ _ rfl rfl rfl (by decide) (shl_lit (m := 65536) rfl (by first | exact wi | exact wu)) ?_ | refine A_shl rfl rfl 69 78 _ _ rfl rfl rfl (by decide) (shl_lit (m := 4294967296) rfl (by first | exact wi | exact wu)) ?_ | refine A_shl rfl rfl 69 78 _ _ rfl rfl rfl (by first | decide | omega) rfl ?_ | refine A_bits rfl rfl .or 69 69 _ _ rfl rfl rfl rfl rfl ?_) | (refine kL 815 rfl ?_; first | refine A_lit rfl rfl 25 1 _ rfl ud25 inf69 (.cons rfl .nil) (els := [[_]]) rfl (by first | exact (rfl : _ = List.map tU [_]) | exact qN) rfl (Nat.ne_of_beq_eq_false rfl) (Nat.le_of_ble_eq_true rfl) (Nat.le_of_ble_eq_true rfl) (.push qL qN) ?_) | refine uA ?_ | refine uS 12 (fun hb => ?_) (fun hb => ?_))) | refine uC ?_ | refine kcp rfl (fun hc => ?_) (fun hc => ?_) | refine kcn rfl (fun hc => ?_) (fun hc => ?_) | refine kcb rfl (fun hc => ?_) (fun hc => ?_) | refine kcc rfl (fun hc => ?_) (fun hc => ?_) | fail)
     all_goals first | (exfalso; omega) | ((first | exact Fin.q Try.results90 (.cons (.tmp rfl) .nil) [] | refine Fin.q Try.results90 (.cons (.tmp rfl) .nil) [] (hr := (.t ?_)) | refine Fin.mkv (rs := _) Try.results90 (.cons (.tmp rfl) .nil) [] (by decide) rfl ?_ ?_ ?_ <;> repeat' (skip; first | exact .nil | refine .cons rfl ?_ ?_ | refine .cons ?_ ?_ | refine .row ?_ | refine .rset ?_ | refine .box ?_ | exact .gone | refine .aggL ?_ | refine .tupL ?_ | refine .old rfl ?_ | refine .new rfl rfl rfl ?_ | exact .nl | exact .optr rfl | exact .nptr rfl rfl rfl | refine .t ?_ | exact .any _ | rfl)))
     all_goals first | rfl | (simp [callB]; done) | skip
theorem pCallN_c (q : DReq) (ph : Int) (hl : q.cases.length ≤ 1152921504606846976) (hq : fitQ q = false) : Cd Try.prog 90 [aRq q, i64 ph] (.t (.lst ([].map tU))) [] := by
 have c1 := pFits_c q hl
 rw [hq] at c1
 dsimp only [aRq] at *
 refine Cd.enter' Try.func90 rfl Try.ntmps90 rfl ?_
 repeat' (first | ((with_reducible refine kAL ?_); (first | (refine kL 1 rfl ?_; first | ((first | refine A_as (d := 4) rfl rfl rfl rfl ?_ | refine A_move (d := 4) rfl rfl _ (.inr rfl) (y := .sl _ _ _) rfl ?_ | refine A_move (d := 4) rfl rfl _ (.inr rfl) (y := .nl) rfl ?_ | refine A_move (d := 4) rfl rfl _ (.inr rfl) (y := .ptr _ _) rfl ?_ | refine A_move (d := 4) rfl rfl _ (.inr rfl) (y := .ln _) rfl ?_ | refine A_move (d := 4) rfl rfl _ (.inr rfl) (y := .lp _) rfl ?_ | refine A_move (d := 4) rfl rfl _ (.inr rfl) (y := .fn _ _ _) rfl ?_ | refine A_move (d := 4) rfl rfl _ (.inr rfl) (y := .sub _ _ _ _) rfl ?_ | refine A_move (d := 4) rfl rfl _ (.inr rfl) (y := .rp _ _ _ _) rfl ?_ | refine A_move (d := 4) rfl rfl _ (.inr rfl) (y := .agg _) rfl ?_ | refine A_move (d := 4) rfl rfl _ (.inr rfl) (y := .tup _) rfl ?_); (try refine uz 4 ?_))) | (refine kL 3402 rfl ?_; first | refine uK (c1) ?_) | (refine kL 12 rfl ?_; first | refine A_append_nlsub rfl rfl _ _ 25 rfl ud25 inf69 rfl rfl rfl rfl (by (try simp only [List.length_map, List.length_append, List.length_cons, List.length_nil]); omega) qB qB List.map_drop.symm (.push qL qN) ?_) | (refine kL 2217 rfl ?_; first | refine A_shl rfl rfl 69 78 _ _ rfl rfl rfl (by decide) (shl_lit (m := 256) rfl (by first | exact wi | exact wu)) ?_ | refine A_bits rfl rfl .or 69 69 _ _ rfl rfl rfl rfl (or_sum 8 (M := 256) rfl (by omega) (by omega) (by omega) (by omega) (by omega) (by omega)) ?_ | refine A_bits rfl rfl .or 69 69 _ _ rfl rfl rfl rfl (or_sum' 8 (M := 256) rfl (by omega) (by omega) (by omega) (by omega) (by omega) (by omega)) ?_ | refine A_bits rfl rfl .or 69 69 _ _ rfl rfl rfl rfl (or_sum 16 (M := 65536) rfl (by omega) (by omega) (by omega) (by omega) (by omega) (by omega)) ?_ | refine A_bits rfl rfl .or 69 69 _ _ rfl rfl rfl rfl (or_sum' 16 (M := 65536) rfl (by omega) (by omega) (by omega) (by omega) (by omega) (by omega)) ?_ | refine A_bits rfl rfl .or 69 69 _ _ rfl rfl rfl rfl (or_sum 32 (M := 4294967296) rfl (by omega) (by omega) (by omega) (by omega) (by omega) (by omega)) ?_ | refine A_bits rfl rfl .or 69 69 _ _ rfl rfl rfl rfl (or_sum' 32 (M := 4294967296) rfl (by omega) (by omega) (by omega) (by omega) (by omega) (by omega)) ?_ | refine A_shl rfl rfl 69 78 _ _ rfl rfl rfl (by decide) (shl_lit (m := 65536) rfl (by first | exact wi | exact wu)) ?_ | refine A_shl rfl rfl 69 78 _ _ rfl rfl rfl (by decide) (shl_lit (m := 4294967296) rfl (by first | exact wi | exact wu)) ?_ | refine A_shl rfl rfl 69 78 _ _ rfl rfl rfl (by first | decide | omega) rfl ?_ | refine A_bits rfl rfl .or 69 69 _ _ rfl rfl rfl rfl rfl ?_) | (refine kL 815 rfl ?_; first | refine A_lit rfl rfl 25 1 _ rfl ud25 inf69 (.cons rfl .nil) (els := [[_]]) rfl (by first | exact qN) rfl (Nat.ne_of_beq_eq_false rfl) (Nat.le_of_ble_eq_true rfl) (Nat.le_of_ble_eq_true rfl) (.push qL qN) ?_) | refine uA ?_ | refine uS 12 (fun hb => ?_) (fun hb => ?_))) | refine uC ?_ | refine kcp rfl (fun hc => ?_) (fun hc => ?_) | refine kcn rfl (fun hc => ?_) (fun hc => ?_) | refine kcb rfl (fun hc => ?_) (fun hc => ?_) | refine kcc rfl (fun hc => ?_) (fun hc => ?_) | fail)
 all_goals first | (exfalso; omega) | ((first | exact Fin.q Try.results90 (.cons (.tmp rfl) .nil) [] | refine Fin.q Try.results90 (.cons (.tmp rfl) .nil) [] (hr := (.t ?_)) | refine Fin.mkv (rs := _) Try.results90 (.cons (.tmp rfl) .nil) [] (by decide) rfl ?_ ?_ ?_ <;> repeat' (skip; first | exact .nil | refine .cons rfl ?_ ?_ | refine .cons ?_ ?_ | refine .row ?_ | refine .rset ?_ | refine .box ?_ | exact .gone | refine .aggL ?_ | refine .tupL ?_ | refine .old rfl ?_ | refine .new rfl rfl rfl ?_ | exact .nl | exact .optr rfl | exact .nptr rfl rfl rfl | refine .t ?_ | exact .any _ | rfl)))
end
section
def caseR (w : Int) : DCase := ⟨w % 256, w / 256 % 65536, w / 4294967296⟩
def okW1 (w : Int) : Bool := decide ((w % 256 = 1 ∨ w % 256 = 2) ∧ w / 16777216 % 256 = 0)
def nR (h : Int) : Nat := (h / 256 % 16).toNat
def reqR (h a b c : Int) : DReq := ⟨h % 256, h / 65536 % 65536, h / 4294967296, decide (h / 4096 % 2 = 1), ([a, b, c].take (nR h)).map caseR⟩
def mayC (h a b c p : Int) : Bool := decide (p ≤ 4294967295) && decide (1 ≤ h % 256 ∧ h % 256 ≤ 9 ∧ h / 256 % 16 ≤ 3 ∧ h / 4096 % 16 ≤ 1) && ((List.range 3).all fun i => if i < nR h then okW1 ([a, b, c].getD i 0) else decide ([a, b, c].getD i 0 = 0))
theorem word_back {w : Int} (h0 : 0 ≤ w) (h1 : w ≤ 18446744073709551615) : (caseOK (caseR w) = true ∧ wordK (caseR w) = w) ↔ okW1 w = true := by
 unfold caseOK wordK caseR okW1
 simp only [Bool.and_eq_true, inI_iff, decide_eq_true_eq]
 omega
theorem head_back {h : Int} {n : Nat} (hn : h / 256 % 16 = n) (h0 : 0 ≤ h) (h1 : h ≤ 18446744073709551615) : h % 256 + 256 * (n : Int) + 65536 * (h / 65536 % 65536) + 4294967296 * (h / 4294967296) + 4096 * bitI (decide (h / 4096 % 2 = 1)) = h ↔ h / 4096 % 16 ≤ 1 := by
 unfold bitI
 by_cases hd : h / 4096 % 2 = 1
 ·rw [decide_eq_true hd]; simp only [if_true]; omega
 ·rw [decide_eq_false hd]; simp only [Bool.false_eq_true, if_false]; omega
theorem reqR_n {h a b c : Int} {n : Nat} (hn : h / 256 % 16 = n) : nR h = n := by unfold nR; rw [hn]; exact Int.toNat_natCast n
theorem call_back {h a b c p : Int} (hh : 0 ≤ h ∧ h ≤ 18446744073709551615) (ha : 0 ≤ a ∧ a ≤ 18446744073709551615) (hb : 0 ≤ b ∧ b ≤ 18446744073709551615) (hc : 0 ≤ c ∧ c ≤ 18446744073709551615) (hp : p ≤ 4294967295) (h3 : h / 256 % 16 ≤ 3) :
  (fitQ (reqR h a b c) = true ∧ callD (reqR h a b c) p = [h, a, b, c, p]) ↔ mayC h a b c p = true := by
 have wa := word_back ha.1 ha.2
 have wb := word_back hb.1 hb.2
 have wc := word_back hc.1 hc.2
 obtain ⟨n, hn⟩ : ∃ n : Nat, h / 256 % 16 = n := ⟨(h / 256 % 16).toNat, by omega⟩
 have hN := reqR_n (a := a) (b := b) (c := c) hn
 have hd := head_back hn hh.1 hh.2
 have k1 : 0 ≤ h / 65536 % 65536 ∧ h / 65536 % 65536 ≤ 65535 := by omega
 have k2 : 0 ≤ h / 4294967296 ∧ h / 4294967296 ≤ 4294967295 := by omega
 have hn3 : n = 0 ∨ n = 1 ∨ n = 2 ∨ n = 3 := by omega
 rcases hn3 with rfl | rfl | rfl | rfl
 all_goals
  simp only [mayC, reqR, fitQ, callD, headQ, hN, wpad, show List.range 3 = [0, 1, 2] from rfl, List.take_zero, List.take_succ_cons, List.map_nil, List.map_cons, List.length_nil, List.length_cons, List.all_cons, List.all_nil, List.cons_append, List.nil_append, List.getD_cons_zero, List.getD_cons_succ, List.getD_nil, List.cons.injEq, and_true, Bool.and_true, Bool.and_eq_true, decide_eq_true_eq, inI_iff, Nat.zero_add, Nat.reduceAdd, Nat.lt_irrefl, Nat.not_lt_zero, if_false, Nat.reduceLT, if_true, ite_true, ite_false]
  try simp only [← wa, ← wb, ← wc]
  rw [hd]
  try rw [eq_comm (a := (0 : Int)) (b := c)]
  try rw [eq_comm (a := (0 : Int)) (b := b)]
  try rw [eq_comm (a := (0 : Int)) (b := a)]
  generalize wordK (caseR a) = u at *
  generalize wordK (caseR b) = v at *
  generalize wordK (caseR c) = w at *
  constructor
  ·rintro ⟨q1, q2⟩
   simp_all
  ·rintro ⟨q1, q2⟩
   simp_all
end
section
def fitM (c : DConf) (l : List Int) : Bool := decide (chkL c = 0 ∧ (l.length : Int) = totL c)
def nodeOk (c : DConf) (l : List Int) (i : Int) : Bool := fitM c l && decide (0 ≤ i ∧ i < nodesL c)
def tagM (c : DConf) (l : List Int) (i : Int) : Int := if nodeOk c l i then l.getD (nodeL c i).toNat 0 % 4294967296 else 0
def recM (c : DConf) (l : List Int) (i : Int) : List Int := if nodeOk c l i then (l.drop ((nodeL c i).toNat + 1)).take (sizeC c).toNat else []
def rOkM (c : DConf) (l : List Int) : Bool := fitM c l && refOk (l.getD 0 0) && decide (refI (l.getD 0 0) < nodesL c) && decide (tagM c l (refI (l.getD 0 0)) = refT (l.getD 0 0))
def rootI (c : DConf) (l : List Int) : Int := if rOkM c l then refI (l.getD 0 0) else 0
def rootT (c : DConf) (l : List Int) : Int := if rOkM c l then refT (l.getD 0 0) else 0
def rootR (c : DConf) (l : List Int) : List Int := if rOkM c l then recM c l (refI (l.getD 0 0)) else []
structure FM (c : DConf) (l : List Int) (T X : Nat) : Prop where
 chk : chkL c = 0
 k : chkC c = true
 th : c.threads = (T : Int)
 t0 : 1 ≤ T ∧ T ≤ 64
 len : l.length = 3 + T * 9 + X
 x : (X : Int) = nodesL c * (1 + sizeC c)
 n : 1 ≤ nodesL c ∧ nodesL c ≤ 4097
 z : 0 ≤ sizeC c ∧ sizeC c ≤ 393
 tot : totL c = (l.length : Int)
 top : l.length ≤ 1048576
theorem fm_of {c : DConf} {l : List Int} (h : fitM c l = true) : ∃ T X, FM c l T X := by
 unfold fitM at h
 obtain ⟨h1, h2⟩ := of_decide_eq_true h
 have hk : chkC c = true := by cases hk : chkC c; unfold chkL at h1; rw [hk] at h1; simp at h1; rfl
 have ht : totL c ≤ 1048576 := by
  unfold chkL at h1
  rw [hk, if_pos rfl] at h1
  by_cases g : totL c > 1048576
  ·rw [if_pos g] at h1; cases h1
  ·omega
 obtain ⟨_, e, b1, b2⟩ := totL_b hk
 have S := chkC_shaped hk
 have t0 := S.t0
 have t1 := S.t1
 exact ⟨c.threads.toNat, (nodesL c * (1 + sizeC c)).toNat, h1, hk, by omega, by omega, by omega, by omega, nodesL_b hk, sizeC_b c, by omega, by omega⟩
theorem fm_no {c : DConf} {l : List Int} (h : fitM c l = false) : rOkM c l = false := by unfold rOkM; rw [h]; rfl
section
variable {c : DConf} {l : List Int} {T X : Nat} (F : FM c l T X)
include F
theorem FM.node {i : Int} (h0 : 0 ≤ i) (h1 : i ≤ nodesL c) : ∃ n : Nat, nodeL c i = (n : Int) ∧ (n : Int) = 3 + (T : Int) * 9 + i * (1 + sizeC c) ∧ 3 ≤ n ∧ n ≤ l.length := by
 have hn := F.n
 have hz := F.z
 have ht := F.t0
 have hx := F.x
 have hl := F.len
 have hm : i * (1 + sizeC c) ≤ nodesL c * (1 + sizeC c) := Int.mul_le_mul_of_nonneg_right h1 (by omega)
 have hp : 0 ≤ i * (1 + sizeC c) := Int.mul_nonneg h0 (by omega)
 rw [nodeL_in F.k h0 (by omega), F.th]
 exact ⟨(3 + (T : Int) * 9 + i * (1 + sizeC c)).toNat, by omega, by omega, by omega, by omega⟩
theorem FM.next {i : Int} (h0 : 0 ≤ i) (h1 : i < nodesL c) : ∃ n m : Nat, nodeL c i = (n : Int) ∧ nodeL c (i + 1) = (m : Int) ∧ m = n + 1 + (sizeC c).toNat ∧ m ≤ l.length ∧ 3 ≤ n := by
 obtain ⟨n, e1, e2, e3, e4⟩ := F.node h0 (by omega)
 obtain ⟨m, f1, f2, f3, f4⟩ := F.node (i := i + 1) (by omega) (by omega)
 have hz := F.z
 refine ⟨n, m, e1, f1, ?_, f4, e3⟩
 have : (i + 1) * (1 + sizeC c) = i * (1 + sizeC c) + (1 + sizeC c) := by rw [Int.add_mul, Int.one_mul]
 omega
theorem FM.haz {t : Nat} (h : t < T) : hazL c t = ((3 + T * 6 + t : Nat) : Int) ∧ 3 + T * 6 + t < l.length := by
 have ht := F.t0
 have hl := F.len
 have e := F.th
 unfold hazL
 rw [e, Wi_in (x := (T : Int) * 6) (by omega), Wi_in (x := 3 + (T : Int) * 6) (by omega), Wi_in (by omega)]
 omega
theorem FM.ep {t : Nat} (h : t < T) : epL c t = ((3 + T * 7 + t : Nat) : Int) ∧ 3 + T * 7 + t < l.length := by
 have ht := F.t0
 have hl := F.len
 have e := F.th
 unfold epL
 rw [e, Wi_in (x := (T : Int) * 7) (by omega), Wi_in (x := 3 + (T : Int) * 7) (by omega), Wi_in (by omega)]
 omega
theorem FM.mail {t : Nat} (h : t < T) : mailL c t = ((3 + T * 8 + t : Nat) : Int) ∧ 3 + T * 8 + t < l.length := by
 have ht := F.t0
 have hl := F.len
 have e := F.th
 unfold mailL
 rw [e, Wi_in (x := (T : Int) * 8) (by omega), Wi_in (x := 3 + (T : Int) * 8) (by omega), Wi_in (by omega)]
 omega
theorem FM.seq {t : Nat} (h : t < T) : Wi (3 + (t : Int)) = ((3 + t : Nat) : Int) ∧ 3 + t < l.length := by
 have ht := F.t0
 have hl := F.len
 rw [Wi_in (by omega)]
 omega
theorem FM.args {t : Nat} (h : t < T) : argsL c t = ((3 + T + t * 5 : Nat) : Int) ∧ 3 + T + t * 5 + 5 ≤ l.length := by
 have ht := F.t0
 have hl := F.len
 have e := F.th
 unfold argsL
 rw [e, Wi_in (x := 3 + (T : Int)) (by omega), Wi_in (x := (t : Int) * 5) (by omega), Wi_in (by omega)]
 omega
end
theorem u_at {l : List Int} (hU : okU l) {n : Nat} (h : n < l.length) : l[n]? = some (l.getD n 0) ∧ 0 ≤ l.getD n 0 ∧ l.getD n 0 ≤ 18446744073709551615 := by
 have e : l[n]? = some l[n] := List.getElem?_eq_getElem h
 have g : l.getD n 0 = l[n] := by rw [List.getD_eq_getElem?_getD, e]; rfl
 rw [g]
 exact ⟨e, hU _ (List.getElem_mem h)⟩
theorem recM_ok {c : DConf} {l : List Int} (hU : okU l) (i : Int) : okU (recM c l i) ∧ (recM c l i).length ≤ l.length := by
 unfold recM
 split
 ·exact ⟨fun w hw => hU w (List.mem_of_mem_drop (List.mem_of_mem_take hw)), by rw [List.length_take, List.length_drop]; omega⟩
 ·exact ⟨fun w hw => (by cases hw), Nat.zero_le _⟩
theorem rootR_ok {c : DConf} {l : List Int} (hU : okU l) : okU (rootR c l) ∧ (rootR c l).length ≤ l.length := by
 unfold rootR
 split
 ·exact recM_ok hU _
 ·exact ⟨fun w hw => (by cases hw), Nat.zero_le _⟩
theorem doneL_b {c : DConf} {l : List Int} (hU : okU l) (t : Int) : 0 ≤ doneL c l t ∧ doneL c l t ≤ 18446744073709551615 := by
 unfold doneL
 split
 ·rw [List.getD_eq_getElem?_getD]
  cases hx : l[(stateC c + t).toNat]? with
  | none => decide
  | some a => exact hU a (List.mem_of_getElem? hx)
 ·decide
def hazF (c : DConf) (l : List Int) (t : Nat) : DRef := ⟨refI (l.getD (3 + c.threads.toNat * 6 + t) 0), refT (l.getD (3 + c.threads.toNat * 6 + t) 0)⟩
def epF (c : DConf) (l : List Int) (t : Nat) : Int := if l.getD (3 + c.threads.toNat * 7 + t) 0 = 0 then -1 else l.getD (3 + c.threads.toNat * 7 + t) 0 / 2
def mailF (c : DConf) (l : List Int) (t : Nat) : Rst := readR (l.getD (3 + c.threads.toNat * 8 + t) 0)
def hazM (c : DConf) (l : List Int) : List DRef := if fitM c l then (List.range c.threads.toNat).map (hazF c l) else []
def epM (c : DConf) (l : List Int) : List Int := if fitM c l then (List.range c.threads.toNat).map (epF c l) else []
def mailM (c : DConf) (l : List Int) : List Rst := if fitM c l then (List.range c.threads.toNat).map (mailF c l) else []
def lateB (c : DConf) (l : List Int) (t : Nat) : Bool := decide (rankR (readR (l.getD (3 + c.threads.toNat * 8 + t) 0)) < rankR (readR (doneL c (rootR c l) t)))
def natI (t : Nat) : Int := (t : Int)
def lateM (c : DConf) (l : List Int) : List Int := if rOkM c l then ((List.range c.threads.toNat).filter (lateB c l)).map natI else []
def usedB (c : DConf) (l : List Int) (i : Nat) : Bool := decide (l.getD (nodeL c i).toNat 0 ≠ 0)
def usedM (c : DConf) (l : List Int) : List Int := if fitM c l then ((List.range (nodesL c).toNat).filter (usedB c l)).map natI else []
def argW (c : DConf) (l : List Int) (t j : Nat) : Int := l.getD (3 + c.threads.toNat + t * 5 + j) 0
def annB (c : DConf) (l : List Int) (t : Nat) : Bool := mayC (argW c l t 0) (argW c l t 1) (argW c l t 2) (argW c l t 3) (argW c l t 4) && decide (l.getD (3 + t) 0 ≤ 1048575) && decide (l.getD (3 + t) 0 > (readR (doneL c (rootR c l) t)).seq)
def annF (c : DConf) (l : List Int) (t : Nat) : DOp := ⟨t, l.getD (3 + t) 0, argW c l t 4, reqR (argW c l t 0) (argW c l t 1) (argW c l t 2) (argW c l t 3)⟩
def annM (c : DConf) (l : List Int) : List DOp := if rOkM c l then ((List.range c.threads.toNat).filter (annB c l)).map (annF c l) else []
theorem rng_map {α : Type} (f : Nat → α) (k : Nat) : (List.range (k + 1)).map f = (List.range k).map f ++ [f k] := by rw [List.range_succ, List.map_append]; rfl
theorem rng_yes {α : Type} (p : Nat → Bool) (f : Nat → α) (k : Nat) (h : p k = true) : ((List.range (k + 1)).filter p).map f = ((List.range k).filter p).map f ++ [f k] := by
 rw [List.range_succ, List.filter_append, List.map_append]; simp [h]
theorem rng_no {α : Type} (p : Nat → Bool) (f : Nat → α) (k : Nat) (h : p k = false) : ((List.range (k + 1)).filter p).map f = ((List.range k).filter p).map f := by
 rw [List.range_succ, List.filter_append]; simp [h]
theorem rng_len {α : Type} (p : Nat → Bool) (f : Nat → α) (k : Nat) : (((List.range k).filter p).map f).length ≤ k := by
 rw [List.length_map]; have := List.length_filter_le p (List.range k); rw [List.length_range] at this; exact this
theorem five {l : List Int} {A : Nat} (h : A + 5 ≤ l.length) : (l.drop A).take 5 = [l.getD A 0, l.getD (A + 1) 0, l.getD (A + 2) 0, l.getD (A + 3) 0, l.getD (A + 4) 0] := by
 have g : ∀ j, A + j < l.length → (l.drop A)[j]? = some (l.getD (A + j) 0) := fun j hj => by
  rw [List.getElem?_drop, List.getD_eq_getElem?_getD, List.getElem?_eq_getElem hj]; rfl
 apply List.ext_getElem?
 intro j
 rw [List.getElem?_take]
 by_cases hj : j < 5
 ·rw [if_pos hj, g j (by omega)]
  have : j = 0 ∨ j = 1 ∨ j = 2 ∨ j = 3 ∨ j = 4 := by omega
  rcases this with rfl | rfl | rfl | rfl | rfl <;> rfl
 ·rw [if_neg hj, List.getElem?_eq_none (by simp only [List.length_cons, List.length_nil]; omega)]
end
end Go.Proofs.Ytnfbggpkiekpdaa
