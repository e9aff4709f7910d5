/- Joined: XTShape, XTBit2, XTPack, XTCode. -/
import Derived.Test.YtbpgopomninedaaGreatKAg
import Derived.Test.YtbpgopomninedaaGreatKAn
import Derived.Test.YtbpgopomninedaaGreatKAd
import Derived.Test.YtbpgopomninedaaGreatKAc
import Derived.Laws.BitsAllLaws
namespace Go.Proofs.YtbpgopomninedaaGreat
open Go.RowKit
set_option linter.unusedVariables false
set_option linter.unusedSimpArgs false
set_option linter.unnecessarySimpa false
set_option maxRecDepth 100000
set_option maxHeartbeats 64000000
section
attribute [local irreducible] AL AW RG Fin C Cd Cio thenQ blockQ retQ
set_option maxRecDepth 100000
def inI (n a b : Int) : Bool := decide (a ≤ n ∧ n ≤ b)
def ownC (c : DConf) : Bool :=
 if c.kind = 1 ∨ c.kind = 2 then inI c.cap 1 16 && decide (c.chans = 0) && decide (c.gens = 0) && decide (c.start = [])
 else if c.kind = 3 then inI c.chans 1 8 && inI c.cap 0 8 && inI c.gens 1 4095 && decide ((c.start.length : Int) ≤ c.chans) && !(c.start.any fun n => !inI n 0 c.cap)
 else false
def chkC (c : DConf) : Bool := inI c.threads 1 64 && inI c.nodes 1 64 && inI c.retire 1 32 && inI c.patience 0 4 && inI c.tags 1 4294967295 && inI c.seqs 1 1048575 && ownC c
theorem in_c (n a b : Int) : Cd Tryz.prog 80 [i64 n, i64 a, i64 b] (bo (inI n a b)) [] := by
 unfold inI
 by_cases h1 : a ≤ n <;> by_cases h2 : n ≤ b
 all_goals
  refine Cd.enter' Tryz.func80 rfl Tryz.ntmps80 rfl ?_
  repeat' (first | refine uA ?_ | refine uC ?_ | fail)
  all_goals first | (exfalso; omega) | (refine Fin.q Tryz.results80 (.cons (.tmp rfl) .nil) [] (hr := (.t ?_)))
  all_goals simp [h1, h2]
theorem inR_c (n a b : Int) : Cd Tryz.prog 82 [i64 n, i64 a, i64 b] (bo (inI n a b)) [] := by
 unfold inI
 by_cases h1 : a ≤ n <;> by_cases h2 : n ≤ b
 all_goals
  refine Cd.enter' Tryz.func82 rfl Tryz.ntmps82 rfl ?_
  repeat' (first | refine uA ?_ | refine uC ?_ | fail)
  all_goals first | (exfalso; omega) | (refine Fin.q Tryz.results82 (.cons (.tmp rfl) .nil) [] (hr := (.t ?_)))
  all_goals simp [h1, h2]
theorem own1_c (n : Int) (c : DConf) : Cd Tryz.prog 125 [i64 n, .lp [i64 c.kind, i64 c.threads, i64 c.chans, i64 c.cap, i64 c.nodes, i64 c.retire, i64 c.patience, i64 c.tags, i64 c.seqs, i64 c.gens, .ln (c.start.map tI)]] (bo (!inI n 0 c.cap)) [] := by
 have c1 := in_c n 0 c.cap
 generalize inI n 0 c.cap = b at c1
 cases b
 all_goals
  refine Cd.enter' Tryz.func125 rfl Tryz.ntmps125 rfl ?_
  repeat' (first | ((with_reducible refine kAL ?_); (first | refine uK (c1) ?_ | refine uA ?_)) | refine uC ?_ | fail)
  all_goals first | (exfalso; omega) | (exact Fin.q Tryz.results125 (.cons (.tmp rfl) .nil) [])
theorem own_c (c : DConf) (hs : c.start.length ≤ 1152921504606846976) : Cd Tryz.prog 81 [aCf c] (bo (ownC c)) [] := by
 have cF := conFI_c 125 [] [.lp [i64 c.kind, i64 c.threads, i64 c.chans, i64 c.cap, i64 c.nodes, i64 c.retire, i64 c.patience, i64 c.tags, i64 c.seqs, i64 c.gens, .ln (c.start.map tI)]] (fun n => !inI n 0 c.cap) c.start
  (fun n _ => ⟨_, _, [], [.lp [i64 c.kind, i64 c.threads, i64 c.chans, i64 c.cap, i64 c.nodes, i64 c.retire, i64 c.patience, i64 c.tags, i64 c.seqs, i64 c.gens, .ln (c.start.map tI)]], rfl, Tryz.func125, by kernel_rfl, by kernel_rfl, fun _ => .nil, fun _ => .cons (.lpL (by repeat (first | exact .nil | refine .cons ?_ ?_ | exact .t _ | exact .ln _))) .nil, own1_c n c⟩) rfl
  (fun _ _ => .fnL .nil (.cons (.lpL (by repeat (first | exact .nil | refine .cons ?_ ?_ | exact .t _ | exact .ln _))) .nil)) hs
 have h1 : (c.start.map tI).length = c.start.length := List.length_map _
 have c1 := in_c c.cap 1 16
 have c2 := in_c c.chans 1 8
 have c3 := in_c c.cap 0 8
 have c4 := in_c c.gens 1 4095
 unfold ownC
 generalize inI c.cap 1 16 = b1 at *
 generalize inI c.chans 1 8 = b2 at *
 generalize inI c.cap 0 8 = b3 at *
 generalize inI c.gens 1 4095 = b4 at *
 generalize (c.start.any fun n => !inI n 0 c.cap) = b5 at *
 have hst : c.start = [] ↔ c.start.length = 0 := List.length_eq_zero_iff.symm
 by_cases k : c.kind = 1 ∨ c.kind = 2
 ·rw [if_pos k]
  have cs : b1 = false ∨ (b1 = true ∧ c.chans ≠ 0) ∨ (b1 = true ∧ c.chans = 0 ∧ c.gens ≠ 0) ∨ (b1 = true ∧ c.chans = 0 ∧ c.gens = 0 ∧ c.start.length ≠ 0) ∨ (b1 = true ∧ c.chans = 0 ∧ c.gens = 0 ∧ c.start.length = 0) := by
   cases b1
   ·exact .inl rfl
   ·simp only [Bool.true_eq_false, true_and, false_or]; omega
  clear c2 c3 c4 cF
  rcases k with k | k
  all_goals
   rcases cs with rfl | ⟨rfl, e1⟩ | ⟨rfl, e1, e2⟩ | ⟨rfl, e1, e2, e3⟩ | ⟨rfl, e1, e2, e3⟩
   all_goals
    refine Cd.enter' Tryz.func81 rfl Tryz.ntmps81 rfl ?_
    repeat' (first | ((with_reducible refine kAL ?_); (first | refine uK (c1) ?_ | refine uA ?_)) | refine uC ?_ | fail)
    all_goals first | (exfalso; omega) | ((first | exact Fin.q Tryz.results81 (.cons (.tmp rfl) .nil) [] | refine Fin.q Tryz.results81 (.cons (.tmp rfl) .nil) [] (hr := (.t ?_))))
    all_goals first | (simp; done) | (simp [e1]; done) | (simp [e1, e2]; done) | (simp [e1, e2, hst, e3]; done) | skip
 ·rw [if_neg k]
  by_cases k3 : c.kind = 3
  ·rw [if_pos k3]
   have cs : b2 = false ∨ (b2 = true ∧ b3 = false) ∨ (b2 = true ∧ b3 = true ∧ b4 = false) ∨ (b2 = true ∧ b3 = true ∧ b4 = true ∧ ¬ (c.start.length : Int) ≤ c.chans) ∨ (b2 = true ∧ b3 = true ∧ b4 = true ∧ (c.start.length : Int) ≤ c.chans ∧ b5 = false) ∨ (b2 = true ∧ b3 = true ∧ b4 = true ∧ (c.start.length : Int) ≤ c.chans ∧ b5 = true) := by
    by_cases e : (c.start.length : Int) ≤ c.chans <;> cases b2 <;> cases b3 <;> cases b4 <;> cases b5 <;> simp [e]
   rcases cs with rfl | ⟨rfl, rfl⟩ | ⟨rfl, rfl, rfl⟩ | ⟨rfl, rfl, rfl, e1⟩ | ⟨rfl, rfl, rfl, e1, rfl⟩ | ⟨rfl, rfl, rfl, e1, rfl⟩
   all_goals
    refine Cd.enter' Tryz.func81 rfl Tryz.ntmps81 rfl ?_
    repeat' (first | ((with_reducible refine kAL ?_); (first | refine uK (c2) ?_ | refine uK (c3) ?_ | refine uK (c4) ?_ | refine uK (cF) ?_ | refine uA ?_)) | refine uC ?_ | fail)
    all_goals first | (exfalso; omega) | ((first | exact Fin.q Tryz.results81 (.cons (.tmp rfl) .nil) [] | refine Fin.q Tryz.results81 (.cons (.tmp rfl) .nil) [] (hr := (.t ?_))))
    all_goals first | (simp [e1]; done) | (simp; done) | skip
  ·rw [if_neg k3]
   refine Cd.enter' Tryz.func81 rfl Tryz.ntmps81 rfl ?_
   repeat' (first | refine uA ?_ | refine uC ?_ | fail)
   all_goals first | (exfalso; omega) | (exact Fin.q Tryz.results81 (.cons (.tmp rfl) .nil) [])
theorem check_c (c : DConf) (hs : c.start.length ≤ 1152921504606846976) : Cd Tryz.prog 35 [aCf c] (i64 (if chkC c then 0 else 1)) [] := by
 have c1 := in_c c.threads 1 64
 have c2 := in_c c.nodes 1 64
 have c3 := in_c c.retire 1 32
 have c4 := in_c c.patience 0 4
 have c5 := in_c c.tags 1 4294967295
 have c6 := in_c c.seqs 1 1048575
 have c7 := own_c c hs
 unfold chkC
 generalize inI c.threads 1 64 = b1 at *
 generalize inI c.nodes 1 64 = b2 at *
 generalize inI c.retire 1 32 = b3 at *
 generalize inI c.patience 0 4 = b4 at *
 generalize inI c.tags 1 4294967295 = b5 at *
 generalize inI c.seqs 1 1048575 = b6 at *
 generalize ownC c = b7 at *
 have cs : b1 = false ∨ (b1 = true ∧ b2 = false) ∨ (b1 = true ∧ b2 = true ∧ b3 = false) ∨ (b1 = true ∧ b2 = true ∧ b3 = true ∧ b4 = false) ∨ (b1 = true ∧ b2 = true ∧ b3 = true ∧ b4 = true ∧ b5 = false) ∨ (b1 = true ∧ b2 = true ∧ b3 = true ∧ b4 = true ∧ b5 = true ∧ b6 = false) ∨ (b1 = true ∧ b2 = true ∧ b3 = true ∧ b4 = true ∧ b5 = true ∧ b6 = true ∧ b7 = false) ∨ (b1 = true ∧ b2 = true ∧ b3 = true ∧ b4 = true ∧ b5 = true ∧ b6 = true ∧ b7 = true) := by
  cases b1 <;> cases b2 <;> cases b3 <;> cases b4 <;> cases b5 <;> cases b6 <;> cases b7 <;> simp
 rcases cs with rfl | ⟨rfl, rfl⟩ | ⟨rfl, rfl, rfl⟩ | ⟨rfl, rfl, rfl, rfl⟩ | ⟨rfl, rfl, rfl, rfl, rfl⟩ | ⟨rfl, rfl, rfl, rfl, rfl, rfl⟩ | ⟨rfl, rfl, rfl, rfl, rfl, rfl, rfl⟩ | ⟨rfl, rfl, rfl, rfl, rfl, rfl, rfl⟩
 all_goals
  refine Cd.enter' Tryz.func35 rfl Tryz.ntmps35 rfl ?_
  repeat' (first | ((with_reducible refine kAL ?_); (first | refine uK (c1) ?_ | refine uK (c2) ?_ | refine uK (c3) ?_ | refine uK (c4) ?_ | refine uK (c5) ?_ | refine uK (c6) ?_ | refine uK (c7) ?_ | refine uA ?_)) | refine uC ?_ | fail)
  all_goals first | (exfalso; omega) | (exact Bool.noConfusion hc) | (exact Fin.q Tryz.results35 (.cons (.tmp rfl) .nil) [])
  all_goals first | (simp; done) | skip
end
section
theorem or_sum (s : Nat) {a b M : Int} (hM : (2 : Int) ^ s = M) (ha : 0 ≤ a) (hb : 0 ≤ b) (hs : b < M) (hm : a % M = 0) (hA : a < 18446744073709551616) (hB : b < 18446744073709551616) : bits .or .u64 a b = a + b := by
 subst hM
 rw [u64_or a b ha hA hb hB, nat_join s]
 ·omega
 ·have : ((a.toNat : Int)) % ((2 ^ s : Nat) : Int) = 0 := by rw [Int.toNat_of_nonneg ha]; simpa using hm
  exact_mod_cast this
 ·have : (b.toNat : Int) < ((2 ^ s : Nat) : Int) := by rw [Int.toNat_of_nonneg hb]; simpa using hs
  exact_mod_cast this
theorem or_sum' (s : Nat) {a b M : Int} (hM : (2 : Int) ^ s = M) (ha : 0 ≤ a) (hb : 0 ≤ b) (hs : a < M) (hm : b % M = 0) (hA : a < 18446744073709551616) (hB : b < 18446744073709551616) : bits .or .u64 a b = a + b := by
 have h := or_sum s hM hb ha hs hm hB hA
 rw [u64_or b a hb hB ha hA, Nat.or_comm] at h
 rw [u64_or a b ha hA hb hB, h]; omega
theorem and_lit (s : Nat) {x m M : Int} (hm : m + 1 = M) (hM : ((2 ^ s : Nat) : Int) = M) (h0 : 0 ≤ x) (h1 : x < 18446744073709551616) (h2 : m < 18446744073709551616) : bits .and .u64 x m = x % M := by
 subst hM
 obtain rfl : m = ((2 ^ s - 1 : Nat) : Int) := by
  have : 1 ≤ 2 ^ s := Nat.one_le_two_pow
  omega
 rw [u64_and x _ h0 h1 (by omega) h2, Int.toNat_natCast, Nat.and_two_pow_sub_one_eq_mod]
 rw [Int.natCast_emod, Int.toNat_of_nonneg h0]
end
section
attribute [local irreducible] AL AW RG Fin C Cd Cio thenQ blockQ retQ
set_option maxRecDepth 100000
def fitI (n M : Int) : Bool := decide (0 ≤ n ∧ n < M)
theorem pfits_c (n b : Int) (M : Int) (hM : IntKind.i64.wrap (1 * 2 ^ (min b.toNat 64)) = M) (hb : 0 ≤ b) : Cd Tryz.prog 50 [i64 n, i64 b] (bo (fitI n M)) [] := by
 unfold fitI
 by_cases h1 : 0 ≤ n
 all_goals
  refine Cd.enter' Tryz.func50 rfl Tryz.ntmps50 rfl ?_
  repeat' (first | ((with_reducible refine kAL ?_); (first | refine A_shl rfl rfl 3 3 _ _ rfl rfl rfl (by omega) rfl ?_ | refine uA ?_)) | refine uC ?_ | fail)
  all_goals first | (exfalso; omega) | (refine Fin.q Tryz.results50 (.cons (.tmp rfl) .nil) [] (hr := (.t ?_)))
  all_goals first | (simp [h1]; done) | (rw [show IntKind.i64.bits = 64 from rfl, hM]; simp [h1]; done) | skip
def goodR (r : Rst) : Bool := fitI r.value 4294967296 && fitI r.code 256 && fitI r.cas 16 && decide (0 ≤ r.seq) && decide (r.seq ≤ 1048575)
theorem goodR_iff {r : Rst} : goodR r = true ↔ (0 ≤ r.value ∧ r.value < 4294967296) ∧ (0 ≤ r.code ∧ r.code < 256) ∧ (0 ≤ r.cas ∧ r.cas < 16) ∧ 0 ≤ r.seq ∧ r.seq ≤ 1048575 := by unfold goodR fitI; simp; omega
def wordR (r : Rst) : Int := if goodR r then r.seq * 17592186044416 + r.cas * 1099511627776 + r.code * 4294967296 + r.value else 0
def readR (w : Int) : Rst := ⟨w / 17592186044416, w / 1099511627776 % 16, w / 4294967296 % 256, w % 4294967296⟩
theorem pgood_c (r : Rst) : Cd Tryz.prog 131 [aR r] (bo (goodR r)) [] := by
 have c1 := pfits_c r.value 32 4294967296 (by decide) (by decide)
 have c2 := pfits_c r.code 8 256 (by decide) (by decide)
 have c3 := pfits_c r.cas 4 16 (by decide) (by decide)
 unfold goodR
 generalize fitI r.value 4294967296 = b1 at *
 generalize fitI r.code 256 = b2 at *
 generalize fitI r.cas 16 = b3 at *
 by_cases e1 : 0 ≤ r.seq <;> by_cases e2 : r.seq ≤ 1048575
 all_goals
  cases b1 <;> cases b2 <;> cases b3
  all_goals
   refine Cd.enter' Tryz.func131 rfl Tryz.ntmps131 rfl ?_
   repeat' (first | ((with_reducible refine kAL ?_); (first | refine uK (c1) ?_ | refine uK (c2) ?_ | refine uK (c3) ?_ | refine uA ?_)) | refine uC ?_ | fail)
   all_goals first | (exfalso; omega) | ((first | exact Fin.q Tryz.results131 (.cons (.tmp rfl) .nil) [] | refine Fin.q Tryz.results131 (.cons (.tmp rfl) .nil) [] (hr := (.t ?_))))
   all_goals first | (simp [e1, e2]; done) | skip
theorem presult_c (r : Rst) : Cd Tryz.prog 100 [aR r] (u64 (wordR r)) [] := by
 have c1 := pgood_c r
 unfold wordR
 cases hg : goodR r
 ·rw [hg] at c1
  refine Cd.enter' Tryz.func100 rfl Tryz.ntmps100 rfl ?_
  repeat' (first | ((with_reducible refine kAL ?_); (first | refine uK (c1) ?_ | refine uA ?_)) | refine uC ?_ | fail)
  all_goals first | (exfalso; omega) | (exact Fin.q Tryz.results100 (.cons (.tmp rfl) .nil) [])
 ·rw [hg] at c1
  have h := goodR_iff.1 hg
  rw [if_pos rfl]
  refine Cd.enter' Tryz.func100 rfl Tryz.ntmps100 rfl ?_
  repeat' (first | ((with_reducible refine kAL ?_); (first | refine uK (c1) ?_ | refine A_shl rfl rfl 31 97 _ _ rfl rfl rfl (by decide) (shl_lit (m := 17592186044416) rfl (by exact wu)) ?_ | refine A_shl rfl rfl 31 97 _ _ rfl rfl rfl (by decide) (shl_lit (m := 1099511627776) rfl (by exact wu)) ?_ | refine A_bits rfl rfl .or 31 31 _ _ rfl rfl rfl rfl (or_sum 32 (M := 4294967296) rfl (by omega) (by omega) (by omega) (by omega) (by omega) (by omega)) ?_ | refine A_bits rfl rfl .or 31 31 _ _ rfl rfl rfl rfl (or_sum 40 (M := 1099511627776) rfl (by omega) (by omega) (by omega) (by omega) (by omega) (by omega)) ?_ | refine A_bits rfl rfl .or 31 31 _ _ rfl rfl rfl rfl (or_sum 44 (M := 17592186044416) rfl (by omega) (by omega) (by omega) (by omega) (by omega) (by omega)) ?_ | refine A_shl rfl rfl 31 97 _ _ rfl rfl rfl (by decide) (shl_lit (m := 4294967296) rfl (by exact wu)) ?_ | refine uA ?_)) | refine uC ?_ | fail)
  all_goals first | (exfalso; omega) | (exact Fin.q Tryz.results100 (.cons (.tmp rfl) .nil) [])
theorem pread_c (w : Int) (hw : 0 ≤ w ∧ w ≤ 18446744073709551615) : Cd Tryz.prog 92 [u64 w] (aR (readR w)) [] := by
 unfold readR
 refine Cd.enter' Tryz.func92 rfl Tryz.ntmps92 rfl ?_
 repeat' (first | ((with_reducible refine kAL ?_); (first | refine A_shr rfl rfl 31 97 _ _ rfl rfl rfl (by decide) (fdiv_lit (m := 17592186044416) rfl (by decide)) ?_ | refine A_shr rfl rfl 31 97 _ _ rfl rfl rfl (by decide) (fdiv_lit (m := 1099511627776) rfl (by decide)) ?_ | refine A_bits rfl rfl .and 31 31 _ _ rfl rfl rfl rfl (and_lit 4 (M := 16) rfl rfl (by omega) (by omega) (by omega)) ?_ | refine A_shr rfl rfl 31 97 _ _ rfl rfl rfl (by decide) (fdiv_lit (m := 4294967296) rfl (by decide)) ?_ | refine A_bits rfl rfl .and 31 31 _ _ rfl rfl rfl rfl (and_lit 8 (M := 256) rfl rfl (by omega) (by omega) (by omega)) ?_ | refine A_bits rfl rfl .and 31 31 _ _ rfl rfl rfl rfl (and_lit 32 (M := 4294967296) rfl rfl (by omega) (by omega) (by omega)) ?_ | refine uA ?_)) | refine uC ?_ | fail)
 all_goals first | (exfalso; omega) | (exact Fin.q Tryz.results92 (.cons (.agg rfl rfl ud42 rfl inf42 (us := [_, _, _, _]) rfl rfl) .nil) [])
theorem rgood_c (r : Rst) : Cd Tryz.prog 112 [aR r] (bo (goodR r)) [] := by
 unfold goodR fitI
 refine Cd.enter' Tryz.func112 rfl Tryz.ntmps112 rfl ?_
 repeat' (first | ((with_reducible refine kAL ?_); (first | refine uA ?_ | refine uS 6 (fun hb => ?_) (fun hb => ?_) | refine uS 11 (fun hb => ?_) (fun hb => ?_) | refine uS 16 (fun hb => ?_) (fun hb => ?_) | refine uS 21 (fun hb => ?_) (fun hb => ?_) | refine uS 26 (fun hb => ?_) (fun hb => ?_) | refine uS 31 (fun hb => ?_) (fun hb => ?_) | refine uS 36 (fun hb => ?_) (fun hb => ?_))) | refine uC ?_ | fail)
 all_goals first | (exfalso; omega) | (refine Fin.q Tryz.results112 (.cons (.tmp rfl) .nil) [] (hr := (.t ?_)))
 all_goals first | (simp [*]; done) | (simp only [Tr.v.injEq, Value.bool.injEq, ← Bool.decide_and]; exact decide_eq_decide.2 (by omega)) | (simp only [Tr.v.injEq, Value.bool.injEq, ← Bool.decide_and]; exact (decide_eq_false (by omega)).symm) | skip
theorem rresult_c (r : Rst) : Cd Tryz.prog 71 [aR r] (u64 (wordR r)) [] := by
 have c1 := rgood_c r
 unfold wordR
 cases hg : goodR r
 ·rw [hg] at c1
  refine Cd.enter' Tryz.func71 rfl Tryz.ntmps71 rfl ?_
  repeat' (first | ((with_reducible refine kAL ?_); (first | refine uK (c1) ?_ | refine uA ?_)) | refine uC ?_ | fail)
  all_goals first | (exfalso; omega) | (exact Fin.q Tryz.results71 (.cons (.tmp rfl) .nil) [])
 ·rw [hg] at c1
  have h := goodR_iff.1 hg
  rw [if_pos rfl]
  refine Cd.enter' Tryz.func71 rfl Tryz.ntmps71 rfl ?_
  repeat' (first | ((with_reducible refine kAL ?_); (first | refine uK (c1) ?_ | refine uA ?_)) | refine uC ?_ | fail)
  all_goals first | (exfalso; omega) | (refine Fin.q Tryz.results71 (.cons (.tmp rfl) .nil) [] (hr := (.t ?_)))
  all_goals first | (congr 3; omega) | skip
theorem rread_c (w : Int) (hw : 0 ≤ w ∧ w ≤ 18446744073709551615) : Cd Tryz.prog 15 [u64 w] (aR (readR w)) [] := by
 unfold readR
 refine Cd.enter' Tryz.func15 rfl Tryz.ntmps15 rfl ?_
 repeat' (first | refine uA ?_ | refine uC ?_ | fail)
 all_goals first | (exfalso; omega) | ((refine Fin.mkv (rs := _) Tryz.results15 (.cons (.agg rfl rfl ud42 rfl inf42 (us := [_, _, _, _]) rfl rfl) .nil) [] (by decide) rfl ?_ ?_ ?_ <;> repeat' (skip; first | exact .nil | refine .cons rfl ?_ ?_ | refine .cons ?_ ?_ | refine .row ?_ | refine .rset ?_ | refine .box ?_ | exact .gone | refine .aggL ?_ | refine .tupL ?_ | refine .old rfl ?_ | refine .new rfl rfl rfl ?_ | exact .nl | exact .optr rfl | exact .nptr rfl rfl rfl | refine .t ?_ | exact .any _ | rfl)))
 all_goals (refine congrArg (fun z => Tr.v (Value.int IntKind.i64 z)) ?_; dsimp only; omega)
end
section
def wpad (l : List Int) (n : Nat) : List Int := (List.range n).map fun i => l.getD i 0
def valsOK (l : List Int) (most : Int) : Bool := decide ((l.length : Int) ≤ most) && l.all fun x => inI x 0 4294967295
def resOK (l : List Rst) (n : Int) : Bool := decide ((l.length : Int) = n) && l.all goodR
def chanOK (cap : Int) (x : DChan) : Bool := inI x.gen 0 4095 && inI x.cap 0 cap && valsOK x.buf x.cap && (x.used || (!x.closed && decide (x.cap = 0)))
def caseOK (k : DCase) : Bool := decide (k.dir = 1 ∨ k.dir = 2) && inI k.handle 0 65535 && inI k.value 0 4294967295
def waitOK (w : DWait) : Bool :=
 if w.on then inI w.ticket 0 4294967295 && inI w.seq 0 1048575 && decide (1 ≤ w.cases.length ∧ w.cases.length ≤ 3) && w.cases.all caseOK
 else decide (w.ticket = 0) && decide (w.seq = 0) && decide (w.cases = [])
def fitsH (c : DConf) (h : DHall) : Bool :=
 chkC c && decide (c.kind = 3) && inI h.ticket 0 4294967295 && decide ((h.chans.length : Int) = c.chans) && decide ((h.waits.length : Int) = c.threads) && resOK h.done c.threads && h.chans.all (chanOK c.cap) && h.waits.all waitOK
def fitsX (c : DConf) (x : DCells) : Bool := chkC c && decide (c.kind ≠ 3) && decide (x.cap = c.cap) && valsOK x.list c.cap && resOK x.done c.threads
def bitI (b : Bool) : Int := if b then 1 else 0
def headC (x : DChan) : Int := x.gen + 4096 * x.cap + 65536 * bitI x.used + 131072 * bitI x.closed + 1048576 * x.buf.length
def headW (w : DWait) : Int := bitI w.on + 2 * w.cases.length + 16 * w.seq + 4294967296 * w.ticket
def wordK (k : DCase) : Int := k.dir + 256 * k.handle + 4294967296 * k.value
def putC (cap : Int) (x : DChan) : List Int := headC x :: wpad x.buf cap.toNat
def putW3 (w : DWait) : List Int := headW w :: wpad (w.cases.map wordK) 3
def putH (c : DConf) (h : DHall) : List Int := if fitsH c h then h.ticket :: (h.chans.flatMap (putC c.cap) ++ (h.waits.flatMap putW3 ++ h.done.map wordR)) else []
def putX (c : DConf) (x : DCells) : List Int := if fitsX c x then (x.list.length : Int) :: (wpad x.list c.cap.toNat ++ x.done.map wordR) else []
def rdRow (l : List Int) (n : Nat) (m : Int) : List Int := ((l.take n).take m.toNat).map fun w => w % 4294967296
def rdC (cap : Nat) (l : List Int) : DChan := ⟨l.headD 0 % 4096, l.headD 0 / 4096 % 16, decide (l.headD 0 / 65536 % 2 = 1), decide (l.headD 0 / 131072 % 2 = 1), rdRow (l.drop 1) cap (l.headD 0 / 1048576 % 16)⟩
def rdK (w : Int) : DCase := ⟨w % 256, w / 256 % 65536, w / 4294967296⟩
def rdW (l : List Int) : DWait := ⟨decide (l.headD 0 % 2 = 1), l.headD 0 / 4294967296, l.headD 0 / 16 % 1048576, (((l.drop 1).take 3).take (l.headD 0 / 2 % 8).toNat).map rdK⟩
def rdCs (cap : Nat) (l : List Int) (n : Nat) : List DChan := (List.range n).map fun i => rdC cap (l.drop (i * (cap + 1)))
def rdWs (l : List Int) (n : Nat) : List DWait := (List.range n).map fun i => rdW (l.drop (i * 4))
def rdRs (l : List Int) (n : Nat) : List Rst := (l.take n).map readR
def rawH (c : DConf) (l : List Int) : DHall :=
 ⟨l.headD 0 % 4294967296, rdCs c.cap.toNat (l.drop 1) c.chans.toNat, rdWs (l.drop (1 + c.chans.toNat * (c.cap.toNat + 1))) c.threads.toNat, rdRs (l.drop (1 + c.chans.toNat * (c.cap.toNat + 1) + c.threads.toNat * 4)) c.threads.toNat⟩
def rawX (c : DConf) (l : List Int) : DCells := ⟨c.cap, rdRow (l.drop 1) c.cap.toNat (l.headD 0), rdRs (l.drop (1 + c.cap.toNat)) c.threads.toNat⟩
def stateC (c : DConf) : Int := if chkC c then (if c.kind = 3 then 1 + c.chans * (1 + c.cap) + c.threads * 4 else 1 + c.cap) else 0
def sizeC (c : DConf) : Int := if chkC c then stateC c + c.threads else 0
def noH : DHall := ⟨0, [], [], []⟩
def noX : DCells := ⟨0, [], []⟩
def mayH (c : DConf) (l : List Int) : Bool := chkC c && decide (c.kind = 3) && decide ((l.length : Int) = sizeC c) && decide (putH c (rawH c l) = l)
def mayX (c : DConf) (l : List Int) : Bool := chkC c && decide (c.kind ≠ 3) && decide ((l.length : Int) = sizeC c) && decide (putX c (rawX c l) = l)
def readH (c : DConf) (l : List Int) : DHall := if mayH c l then rawH c l else noH
def readX (c : DConf) (l : List Int) : DCells := if mayX c l then rawX c l else noX
structure Shaped (c : DConf) : Prop where
 t0 : 1 ≤ c.threads
 t1 : c.threads ≤ 64
 k : c.kind = 1 ∨ c.kind = 2 ∨ c.kind = 3
 h3 : c.kind = 3 → 1 ≤ c.chans ∧ c.chans ≤ 8 ∧ 0 ≤ c.cap ∧ c.cap ≤ 8
 h1 : c.kind ≠ 3 → 1 ≤ c.cap ∧ c.cap ≤ 16
theorem inI_iff {n a b : Int} : inI n a b = true ↔ a ≤ n ∧ n ≤ b := by unfold inI; simp
theorem chkC_shaped {c : DConf} (h : chkC c = true) : Shaped c := by
 unfold chkC at h
 simp only [Bool.and_eq_true, inI_iff] at h
 obtain ⟨⟨⟨⟨⟨⟨a, _⟩, _⟩, _⟩, _⟩, _⟩, o⟩ := h
 unfold ownC at o
 by_cases k : c.kind = 1 ∨ c.kind = 2
 ·rw [if_pos k] at o
  simp only [Bool.and_eq_true, inI_iff, decide_eq_true_eq] at o
  exact ⟨a.1, a.2, by omega, fun h => by omega, fun _ => o.1.1.1⟩
 ·rw [if_neg k] at o
  by_cases k3 : c.kind = 3
  ·rw [if_pos k3] at o
   simp only [Bool.and_eq_true, inI_iff, decide_eq_true_eq] at o
   exact ⟨a.1, a.2, by omega, fun _ => ⟨o.1.1.1.1.1, o.1.1.1.1.2, o.1.1.1.2.1, o.1.1.1.2.2⟩, fun h => absurd k3 h⟩
  ·rw [if_neg k3] at o; cases o
theorem sizeC_H {c : DConf} (h : chkC c = true) (k : c.kind = 3) : sizeC c = 1 + c.chans * (1 + c.cap) + c.threads * 4 + c.threads := by unfold sizeC stateC; rw [if_pos h, if_pos h, if_pos k]
theorem sizeC_X {c : DConf} (h : chkC c = true) (k : c.kind ≠ 3) : sizeC c = 1 + c.cap + c.threads := by unfold sizeC stateC; rw [if_pos h, if_pos h, if_neg k]
theorem wpad_len (l : List Int) (n : Nat) : (wpad l n).length = n := by simp [wpad]
theorem wpad_succ (l : List Int) (n : Nat) : wpad l (n + 1) = wpad l n ++ [l.getD n 0] := by unfold wpad; rw [List.range_succ]; simp
theorem wpad_get (l : List Int) {n i : Nat} (h : i < n) : (wpad l n)[i]? = some (l.getD i 0) := by unfold wpad; rw [List.getElem?_map, List.getElem?_range h]; rfl
theorem wpad_take (l : List Int) {n : Nat} (h : l.length ≤ n) : (wpad l n).take l.length = l := by
 refine List.ext_getElem? fun i => ?_
 rw [List.getElem?_take]
 by_cases hi : i < l.length
 ·rw [if_pos hi, wpad_get l (by omega), List.getD_eq_getElem?_getD, List.getElem?_eq_getElem hi]; rfl
 ·rw [if_neg hi, List.getElem?_eq_none (by omega)]
theorem flat_len {α : Type} {f : α → List Int} {k : Nat} : ∀ (l : List α), (∀ x ∈ l, (f x).length = k) → (l.flatMap f).length = l.length * k
 | [], _ => by simp
 | a :: l, h => by
  rw [List.flatMap_cons, List.length_append, h a (by simp), flat_len l fun x hx => h x (by simp [hx]), List.length_cons, Nat.succ_mul, Nat.add_comm]
theorem flat_drop {α : Type} {f : α → List Int} {k : Nat} (r : List Int) : ∀ (l : List α) (i : Nat), (∀ x ∈ l, (f x).length = k) → i ≤ l.length → (l.flatMap f ++ r).drop (i * k) = (l.drop i).flatMap f ++ r
 | l, 0, _, _ => by simp
 | [], i + 1, _, h => by simp at h
 | a :: l, i + 1, h, hi => by
  have e : ((f a) ++ (l.flatMap f ++ r)).drop k = l.flatMap f ++ r := by
   have := List.drop_left (l₁ := f a) (l₂ := l.flatMap f ++ r)
   rwa [h a (by simp)] at this
  rw [List.flatMap_cons, List.append_assoc, Nat.succ_mul, Nat.add_comm (i * k) k, ← List.drop_drop, e, flat_drop r l i (fun x hx => h x (by simp [hx])) (by simpa using hi), List.drop_succ_cons]
theorem putC_len (cap : Int) (x : DChan) : (putC cap x).length = cap.toNat + 1 := by simp [putC, wpad_len]
theorem putW3_len (w : DWait) : (putW3 w).length = 4 := by simp [putW3, wpad_len]
theorem valsOK_iff {l : List Int} {m : Int} : valsOK l m = true ↔ (l.length : Int) ≤ m ∧ ∀ x ∈ l, 0 ≤ x ∧ x ≤ 4294967295 := by unfold valsOK; simp only [Bool.and_eq_true, decide_eq_true_eq, List.all_eq_true, inI_iff]
theorem mod_row {l : List Int} (h : ∀ x ∈ l, 0 ≤ x ∧ x ≤ 4294967295) : (l.map fun w => w % 4294967296) = l := by
 conv => rhs; rw [← List.map_id l]
 exact List.map_congr_left fun x hx => by have := h x hx; exact Int.emod_eq_of_lt this.1 (by omega)
theorem rdRow_put {l r : List Int} {n : Nat} (hn : l.length ≤ n) (h : ∀ x ∈ l, 0 ≤ x ∧ x ≤ 4294967295) : rdRow (wpad l n ++ r) n l.length = l := by
 unfold rdRow
 have e : (wpad l n ++ r).take n = wpad l n := by
  have := List.take_left (l₁ := wpad l n) (l₂ := r)
  rwa [wpad_len] at this
 rw [e, Int.toNat_natCast, wpad_take l hn, mod_row h]
theorem bitI_b (b : Bool) : 0 ≤ bitI b ∧ bitI b ≤ 1 := by cases b <;> decide
theorem bitI_1 (b : Bool) : decide (bitI b = 1) = b := by cases b <;> rfl
theorem chanOK_iff {cap : Int} {x : DChan} : chanOK cap x = true ↔ (0 ≤ x.gen ∧ x.gen ≤ 4095) ∧ (0 ≤ x.cap ∧ x.cap ≤ cap) ∧ ((x.buf.length : Int) ≤ x.cap ∧ ∀ y ∈ x.buf, 0 ≤ y ∧ y ≤ 4294967295) ∧ (x.used = true ∨ (x.closed = false ∧ x.cap = 0)) := by
 unfold chanOK; simp only [Bool.and_eq_true, Bool.or_eq_true, inI_iff, valsOK_iff, Bool.not_eq_true', decide_eq_true_eq, and_assoc]
theorem rdC_put {cap : Int} (hc : cap ≤ 15) {x : DChan} (h : chanOK cap x = true) (r : List Int) : rdC cap.toNat (putC cap x ++ r) = x := by
 obtain ⟨h1, h2, ⟨h3, h4⟩, _⟩ := chanOK_iff.1 h
 have b1 := bitI_b x.used
 have b2 := bitI_b x.closed
 have e1 : headC x % 4096 = x.gen := by unfold headC; omega
 have e2 : headC x / 4096 % 16 = x.cap := by unfold headC; omega
 have e3 : headC x / 65536 % 2 = bitI x.used := by unfold headC; omega
 have e4 : headC x / 131072 % 2 = bitI x.closed := by unfold headC; omega
 have e5 : headC x / 1048576 = x.buf.length := by unfold headC; omega
 have e6 : (x.buf.length : Int) % 16 = x.buf.length := by omega
 unfold rdC putC
 simp only [List.cons_append, List.headD_cons, List.drop_succ_cons, List.drop_zero]
 simp only [e1, e2, e3, e4, e5, e6, bitI_1]
 rw [rdRow_put (by omega) h4]
theorem caseOK_iff {k : DCase} : caseOK k = true ↔ (k.dir = 1 ∨ k.dir = 2) ∧ (0 ≤ k.handle ∧ k.handle ≤ 65535) ∧ 0 ≤ k.value ∧ k.value ≤ 4294967295 := by
 unfold caseOK; simp only [Bool.and_eq_true, decide_eq_true_eq, inI_iff, and_assoc]
theorem rdK_word {k : DCase} (h : caseOK k = true) : rdK (wordK k) = k := by
 obtain ⟨h1, h2, h3⟩ := caseOK_iff.1 h
 obtain ⟨d, n, v⟩ := k
 dsimp only at h1 h2 h3
 unfold rdK wordK
 dsimp only
 congr 1 <;> omega
theorem wordK_b {k : DCase} (h : caseOK k = true) : 0 ≤ wordK k ∧ wordK k ≤ 18446744073709551615 := by
 obtain ⟨h1, h2, h3⟩ := caseOK_iff.1 h
 unfold wordK; omega
theorem waitOK_iff {w : DWait} : waitOK w = true ↔ (w.on = true ∧ (0 ≤ w.ticket ∧ w.ticket ≤ 4294967295) ∧ (0 ≤ w.seq ∧ w.seq ≤ 1048575) ∧ (1 ≤ w.cases.length ∧ w.cases.length ≤ 3) ∧ ∀ k ∈ w.cases, caseOK k = true) ∨ (w.on = false ∧ w.ticket = 0 ∧ w.seq = 0 ∧ w.cases = []) := by
 unfold waitOK
 cases w.on
 ·simp [and_assoc]
 ·simp only [if_true, Bool.and_eq_true, decide_eq_true_eq, List.all_eq_true, inI_iff, and_assoc, true_and, Bool.true_eq_false, false_and, or_false]
structure WaitB (w : DWait) : Prop where
 t : 0 ≤ w.ticket ∧ w.ticket ≤ 4294967295
 s : 0 ≤ w.seq ∧ w.seq ≤ 1048575
 n : w.cases.length ≤ 3
 k : ∀ k ∈ w.cases, caseOK k = true
theorem waitOK_b {w : DWait} (h : waitOK w = true) : WaitB w := by
 rcases waitOK_iff.1 h with ⟨_, a, b, c, d⟩ | ⟨_, a, b, c⟩
 ·exact ⟨a, b, c.2, d⟩
 ·exact ⟨by omega, by omega, by rw [c]; decide, by rw [c]; intro k hk; cases hk⟩
theorem rdW_put {w : DWait} (h : waitOK w = true) (r : List Int) : rdW (putW3 w ++ r) = w := by
 obtain ⟨h1, h2, h3, h4⟩ := waitOK_b h
 have b1 := bitI_b w.on
 have e1 : headW w % 2 = bitI w.on := by unfold headW; omega
 have e2 : headW w / 4294967296 = w.ticket := by unfold headW; omega
 have e3 : headW w / 16 % 1048576 = w.seq := by unfold headW; omega
 have e4 : headW w / 2 % 8 = w.cases.length := by unfold headW; omega
 unfold rdW putW3
 simp only [List.cons_append, List.headD_cons, List.drop_succ_cons, List.drop_zero]
 have e5 : (wpad (w.cases.map wordK) 3 ++ r).take 3 = wpad (w.cases.map wordK) 3 := by
  have := List.take_left (l₁ := wpad (w.cases.map wordK) 3) (l₂ := r)
  rwa [wpad_len] at this
 simp only [e1, e2, e3, e4, bitI_1, e5, Int.toNat_natCast]
 have := wpad_take (w.cases.map wordK) (n := 3) (by simpa using h3)
 rw [List.length_map] at this
 rw [this, List.map_map]
 have : w.cases.map (rdK ∘ wordK) = w.cases := by
  conv => rhs; rw [← List.map_id w.cases]
  exact List.map_congr_left fun k hk => rdK_word (h4 k hk)
 rw [this]
theorem readR_word {r : Rst} (h : goodR r = true) : readR (wordR r) = r := by
 have g := goodR_iff.1 h
 obtain ⟨a, b, c, d⟩ := r
 unfold wordR
 rw [if_pos h]
 dsimp only at g
 unfold readR
 dsimp only
 congr 1 <;> omega
theorem wordR_b (r : Rst) : 0 ≤ wordR r ∧ wordR r ≤ 18446744073709551615 := by
 unfold wordR
 split
 ·rename_i h; have g := goodR_iff.1 h; omega
 ·decide
theorem resOK_iff {l : List Rst} {n : Int} : resOK l n = true ↔ (l.length : Int) = n ∧ ∀ r ∈ l, goodR r = true := by unfold resOK; simp only [Bool.and_eq_true, decide_eq_true_eq, List.all_eq_true]
theorem rdRs_put {l : List Rst} (h : ∀ r ∈ l, goodR r = true) : rdRs (l.map wordR) l.length = l := by
 unfold rdRs
 rw [List.take_of_length_le (by simp), List.map_map]
 conv => rhs; rw [← List.map_id l]
 exact List.map_congr_left fun r hr => readR_word (h r hr)
theorem range_get {α : Type} {l : List α} {f : Nat → α} (h : ∀ i a, l[i]? = some a → f i = a) : (List.range l.length).map f = l := by
 refine List.ext_getElem? fun i => ?_
 rw [List.getElem?_map]
 by_cases hi : i < l.length
 ·rw [List.getElem?_range hi, List.getElem?_eq_getElem hi, Option.map_some, h i _ (List.getElem?_eq_getElem hi)]
 ·rw [List.getElem?_eq_none (by simpa using hi), List.getElem?_eq_none (by omega)]; rfl
theorem drop_cons_of {α : Type} {l : List α} {i : Nat} {a : α} (h : l[i]? = some a) : l.drop i = a :: l.drop (i + 1) := List.drop_eq_getElem?_toList_append.trans (by rw [h]; rfl)
theorem fitsH_iff {c : DConf} {h : DHall} : fitsH c h = true ↔ chkC c = true ∧ c.kind = 3 ∧ (0 ≤ h.ticket ∧ h.ticket ≤ 4294967295) ∧ (h.chans.length : Int) = c.chans ∧ (h.waits.length : Int) = c.threads ∧ ((h.done.length : Int) = c.threads ∧ ∀ r ∈ h.done, goodR r = true) ∧ (∀ x ∈ h.chans, chanOK c.cap x = true) ∧ ∀ w ∈ h.waits, waitOK w = true := by
 unfold fitsH; simp only [Bool.and_eq_true, decide_eq_true_eq, List.all_eq_true, inI_iff, resOK_iff, and_assoc]
theorem putH_len {c : DConf} {h : DHall} (hf : fitsH c h = true) : ((putH c h).length : Int) = sizeC c := by
 obtain ⟨h0, h1, h2, h3, h4, ⟨h5, h6⟩, h7, h8⟩ := fitsH_iff.1 hf
 have hs := chkC_shaped h0
 have hb := hs.h3 h1
 unfold putH
 rw [if_pos hf, sizeC_H h0 h1, List.length_cons, List.length_append, List.length_append, flat_len _ fun x _ => putC_len _ x, flat_len _ fun w _ => putW3_len w, List.length_map]
 obtain ⟨n, hn⟩ : ∃ n : Nat, c.cap = n := ⟨c.cap.toNat, by omega⟩
 have : ((h.chans.length * (c.cap.toNat + 1) : Nat) : Int) = c.chans * (1 + c.cap) := by rw [Int.natCast_mul, h3, hn, Int.toNat_natCast]; congr 1; omega
 omega
theorem rawH_put {c : DConf} {h : DHall} (hf : fitsH c h = true) : rawH c (putH c h) = h := by
 obtain ⟨h0, h1, h2, h3, h4, ⟨h5, h6⟩, h7, h8⟩ := fitsH_iff.1 hf
 have hs := chkC_shaped h0
 have hb := hs.h3 h1
 have n1 : c.chans.toNat = h.chans.length := by omega
 have n2 : c.threads.toNat = h.waits.length := by omega
 have n3 : h.waits.length = h.done.length := by omega
 unfold rawH putH
 rw [if_pos hf, n1, n2]
 simp only [List.headD_cons, List.drop_succ_cons, List.drop_zero, Nat.add_comm 1, Nat.add_right_comm _ 1]
 have d1 : ∀ i, i ≤ h.chans.length → ∀ r, (h.chans.flatMap (putC c.cap) ++ r).drop (i * (c.cap.toNat + 1)) = (h.chans.drop i).flatMap (putC c.cap) ++ r := fun i hi r => flat_drop r h.chans i (fun x _ => putC_len _ x) hi
 have d2 : ∀ i, i ≤ h.waits.length → ∀ r, (h.waits.flatMap putW3 ++ r).drop (i * 4) = (h.waits.drop i).flatMap putW3 ++ r := fun i hi r => flat_drop r h.waits i (fun x _ => putW3_len x) hi
 have e1 : h.ticket % 4294967296 = h.ticket := by omega
 have e2 : rdCs c.cap.toNat (h.chans.flatMap (putC c.cap) ++ (h.waits.flatMap putW3 ++ h.done.map wordR)) h.chans.length = h.chans := by
  unfold rdCs
  refine range_get fun i a ha => ?_
  rw [d1 i (by have := get_lt ha; omega), drop_cons_of ha, List.flatMap_cons, List.append_assoc]
  exact rdC_put (by omega) (h7 a (List.mem_of_getElem? ha)) _
 have e3 : rdWs (h.waits.flatMap putW3 ++ h.done.map wordR) h.waits.length = h.waits := by
  unfold rdWs
  refine range_get fun i a ha => ?_
  rw [d2 i (by have := get_lt ha; omega), drop_cons_of ha, List.flatMap_cons, List.append_assoc]
  exact rdW_put (h8 a (List.mem_of_getElem? ha)) _
 have e4 : rdRs (h.done.map wordR) h.waits.length = h.done := by rw [n3]; exact rdRs_put h6
 rw [e1, e2, d1 _ (Nat.le_refl _), List.drop_length, List.flatMap_nil, List.nil_append, e3, ← List.drop_drop, d1 _ (Nat.le_refl _), List.drop_length, List.flatMap_nil, List.nil_append, d2 _ (Nat.le_refl _), List.drop_length, List.flatMap_nil, List.nil_append, e4]
theorem mayH_put (c : DConf) (h : DHall) : mayH c (putH c h) = fitsH c h := by
 cases hf : fitsH c h
 ·have : putH c h = [] := by unfold putH; rw [hf]; rfl
  unfold mayH
  rw [this]
  cases h0 : chkC c
  ·rfl
  ·by_cases h1 : c.kind = 3
   ·have hs := chkC_shaped h0
    have hb := hs.h3 h1
    have := hs.t0
    have hp : 0 ≤ c.chans * (1 + c.cap) := Int.mul_nonneg (by omega) (by omega)
    have e : ¬ ((([] : List Int).length : Int) = sizeC c) := by rw [sizeC_H h0 h1]; simp only [List.length_nil]; omega
    rw [decide_eq_false e]; simp
   ·rw [decide_eq_false h1]; rfl
 ·obtain ⟨h0, h1, _⟩ := fitsH_iff.1 hf
  unfold mayH
  rw [h0, decide_eq_true h1, decide_eq_true (putH_len hf), decide_eq_true (by rw [rawH_put hf])]; rfl
theorem fitsX_iff {c : DConf} {x : DCells} : fitsX c x = true ↔ chkC c = true ∧ c.kind ≠ 3 ∧ x.cap = c.cap ∧ ((x.list.length : Int) ≤ c.cap ∧ ∀ y ∈ x.list, 0 ≤ y ∧ y ≤ 4294967295) ∧ (x.done.length : Int) = c.threads ∧ ∀ r ∈ x.done, goodR r = true := by
 unfold fitsX; simp only [Bool.and_eq_true, decide_eq_true_eq, valsOK_iff, resOK_iff, and_assoc]
theorem putX_len {c : DConf} {x : DCells} (hf : fitsX c x = true) : ((putX c x).length : Int) = sizeC c := by
 obtain ⟨h0, h1, h2, ⟨h3, h4⟩, h5, h6⟩ := fitsX_iff.1 hf
 have hs := chkC_shaped h0
 have hb := hs.h1 h1
 unfold putX
 rw [if_pos hf, sizeC_X h0 h1, List.length_cons, List.length_append, wpad_len, List.length_map]
 omega
theorem rawX_put {c : DConf} {x : DCells} (hf : fitsX c x = true) : rawX c (putX c x) = x := by
 obtain ⟨h0, h1, h2, ⟨h3, h4⟩, h5, h6⟩ := fitsX_iff.1 hf
 have hs := chkC_shaped h0
 have hb := hs.h1 h1
 unfold rawX putX
 rw [if_pos hf]
 simp only [List.headD_cons, List.drop_succ_cons, List.drop_zero, Nat.add_comm 1]
 have e5 : (wpad x.list c.cap.toNat ++ x.done.map wordR).drop c.cap.toNat = x.done.map wordR := by
  have := List.drop_left (l₁ := wpad x.list c.cap.toNat) (l₂ := x.done.map wordR)
  rwa [wpad_len] at this
 rw [rdRow_put (by omega) h4, e5]
 rw [show c.threads.toNat = x.done.length by omega, rdRs_put h6, ← h2]
theorem mayX_put (c : DConf) (x : DCells) : mayX c (putX c x) = fitsX c x := by
 cases hf : fitsX c x
 ·have : putX c x = [] := by unfold putX; rw [hf]; rfl
  unfold mayX
  rw [this]
  cases h0 : chkC c
  ·rfl
  ·by_cases h1 : c.kind ≠ 3
   ·have hs := chkC_shaped h0
    have hb := hs.h1 h1
    have := hs.t0
    have e : ¬ ((([] : List Int).length : Int) = sizeC c) := by rw [sizeC_X h0 h1]; simp only [List.length_nil]; omega
    rw [decide_eq_false e]; simp
   ·rw [decide_eq_false h1]; rfl
 ·obtain ⟨h0, h1, _⟩ := fitsX_iff.1 hf
  unfold mayX
  rw [h0, decide_eq_true h1, decide_eq_true (putX_len hf), decide_eq_true (by rw [rawX_put hf])]; rfl
end
end Go.Proofs.YtbpgopomninedaaGreat
