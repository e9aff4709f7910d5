/- Joined: XTShapeR, XTLayout, XTWhatP. -/
import Derived.Test.YtnibnbcmnaflmaaKEh
import Derived.Test.YtnibnbcmnaflmaaKEj
import Derived.Test.YtnibnbcmnaflmaaKEk
import Derived.Test.YtnibnbcmnaflmaaKEd
import Derived.Test.YtnibnbcmnaflmaaKEc
namespace Go.Proofs.Ytnibnbcmnaflmaa
open Go.RowKit
set_option linter.unusedVariables false
set_option linter.unusedSimpArgs false
set_option linter.unnecessarySimpa false
set_option maxRecDepth 100000
set_option maxHeartbeats 64000000
section
attribute [local irreducible] AL AW RG Fin C Cd Cio thenQ blockQ retQ
set_option maxRecDepth 100000
theorem mulB {a b x y : Int} (h1 : 0 ≤ a) (h2 : a ≤ x) (h3 : 0 ≤ b) (h4 : b ≤ y) : 0 ≤ a * b ∧ a * b ≤ x * y := ⟨Int.mul_nonneg h1 h3, Int.mul_le_mul h2 h4 h3 (by omega)⟩
theorem state_c (c : DConf) (hs : c.start.length ≤ 1152921504606846976) : Cd Try.prog 110 [aCf c] (i64 (stateC c)) [] := by
 have c1 := check_c c hs
 unfold stateC
 cases hk : chkC c
 ·rw [hk] at c1
  refine Cd.enter' Try.func110 rfl Try.ntmps110 rfl ?_
  repeat' (first | ((with_reducible refine kAL ?_); (first | (refine kL 3434 rfl ?_; first | refine uK (c1) ?_) | refine uA ?_)) | refine uC ?_ | fail)
  all_goals first | (exfalso; omega) | (exact Fin.q Try.results110 (.cons (.tmp rfl) .nil) [])
 ·rw [hk] at c1
  have S := chkC_shaped hk
  have b1 := S.t0
  have b2 := S.t1
  rw [if_pos rfl]
  by_cases k : c.kind = 3
  ·rw [if_pos k]
   have h3 := S.h3 k
   have hp := mulB (a := c.chans) (b := 1 + c.cap) (x := 8) (y := 9) (by omega) (by omega) (by omega) (by omega)
   refine Cd.enter' Try.func110 rfl Try.ntmps110 rfl ?_
   repeat' (first | ((with_reducible refine kAL ?_); (first | (refine kL 3434 rfl ?_; first | refine uK (c1) ?_) | refine uA ?_)) | refine uC ?_ | fail)
   all_goals first | (exfalso; omega) | (exact Fin.q Try.results110 (.cons (.tmp rfl) .nil) [])
  ·rw [if_neg k]
   have h1 := S.h1 k
   refine Cd.enter' Try.func110 rfl Try.ntmps110 rfl ?_
   repeat' (first | ((with_reducible refine kAL ?_); (first | (refine kL 3434 rfl ?_; first | refine uK (c1) ?_) | refine uA ?_)) | refine uC ?_ | fail)
   all_goals first | (exfalso; omega) | (exact Fin.q Try.results110 (.cons (.tmp rfl) .nil) [])
theorem stateC_b {c : DConf} (h : chkC c = true) : 0 ≤ stateC c ∧ stateC c ≤ 329 := by
 have S := chkC_shaped h
 have b1 := S.t0
 have b2 := S.t1
 unfold stateC
 rw [if_pos h]
 by_cases k : c.kind = 3
 ·rw [if_pos k]
  have h3 := S.h3 k
  have hp := mulB (a := c.chans) (b := 1 + c.cap) (x := 8) (y := 9) (by omega) (by omega) (by omega) (by omega)
  omega
 ·rw [if_neg k]
  have h1 := S.h1 k
  omega
theorem size_c (c : DConf) (hs : c.start.length ≤ 1152921504606846976) : Cd Try.prog 85 [aCf c] (i64 (sizeC c)) [] := by
 have c1 := check_c c hs
 have c2 := state_c c hs
 unfold sizeC
 cases hk : chkC c
 ·rw [hk] at c1
  refine Cd.enter' Try.func85 rfl Try.ntmps85 rfl ?_
  repeat' (first | ((with_reducible refine kAL ?_); (first | (refine kL 3434 rfl ?_; first | refine uK (c1) ?_) | refine uA ?_)) | refine uC ?_ | fail)
  all_goals first | (exfalso; omega) | (exact Fin.q Try.results85 (.cons (.tmp rfl) .nil) [])
 ·rw [hk] at c1
  have b0 := stateC_b hk
  have S := chkC_shaped hk
  have b1 := S.t0
  have b2 := S.t1
  rw [if_pos rfl]
  refine Cd.enter' Try.func85 rfl Try.ntmps85 rfl ?_
  repeat' (first | ((with_reducible refine kAL ?_); (first | (refine kL 3434 rfl ?_; first | refine uK (c1) ?_) | refine uA ?_)) | ((with_reducible refine kRG ?_); (first | (refine kR 3530 rfl ?_; first | refine uQ (c2) 0 ?_) | refine uR ?_)) | refine uC ?_ | refine AW.drawU (id := 3) mixed 0 qR ?_ | fail)
  all_goals first | (exfalso; omega) | (exact Fin.q Try.results85 (.cons (.tmp rfl) .nil) [])
theorem inR_t {n a b : Int} (h : inI n a b = true) : Cd Try.prog 106 [i64 n, i64 a, i64 b] (bo true) [] := by rw [← h]; exact inR_c n a b
theorem inR_f {n a b : Int} (h : inI n a b = false) : Cd Try.prog 106 [i64 n, i64 a, i64 b] (bo false) [] := by rw [← h]; exact inR_c n a b
theorem rchk_c (c : DConf) (hs : c.start.length ≤ 1152921504606846976) : Cd Try.prog 80 [aCf c] (i64 (if chkC c then 0 else 1)) [] := by
 have h0 : (c.start.map tI).length = c.start.length := List.length_map _
 have hst : c.start = [] ↔ c.start.length = 0 := List.length_eq_zero_iff.symm
 cases h1 : inI c.threads 1 64
 ·rw [show chkC c = false by unfold chkC; simp [*], if_neg (by decide)]
  first | refine Cd.enter' Try.func80 rfl Try.ntmps80 rfl ?_ | refine Cio.enter' Try.func80 rfl Try.ntmps80 rfl qM ?_ | refine C.enter' Try.func80 rfl Try.ntmps80 rfl qM ?_
  repeat' (first | ((with_reducible refine kAL ?_); (first | (refine kL 3402 rfl ?_; first | (refine uK (inR_f ?zq0) ?_; (case zq0 => assumption))) | refine uA ?_)) | refine uC ?_ | fail)
  all_goals first | (exfalso; omega) | (exact Fin.q Try.results80 (.cons (.tmp rfl) .nil) [])
 cases h2 : inI c.nodes 1 64
 ·rw [show chkC c = false by unfold chkC; simp [*], if_neg (by decide)]
  first | refine Cd.enter' Try.func80 rfl Try.ntmps80 rfl ?_ | refine Cio.enter' Try.func80 rfl Try.ntmps80 rfl qM ?_ | refine C.enter' Try.func80 rfl Try.ntmps80 rfl qM ?_
  repeat' (first | ((with_reducible refine kAL ?_); (first | (refine kL 3402 rfl ?_; first | (refine uK (inR_t ?zq0) ?_; (case zq0 => assumption)) | (refine uK (inR_f ?zq0) ?_; (case zq0 => assumption))) | refine uA ?_)) | refine uC ?_ | fail)
  all_goals first | (exfalso; omega) | (exact Fin.q Try.results80 (.cons (.tmp rfl) .nil) [])
 cases h3 : inI c.retire 1 32
 ·rw [show chkC c = false by unfold chkC; simp [*], if_neg (by decide)]
  first | refine Cd.enter' Try.func80 rfl Try.ntmps80 rfl ?_ | refine Cio.enter' Try.func80 rfl Try.ntmps80 rfl qM ?_ | refine C.enter' Try.func80 rfl Try.ntmps80 rfl qM ?_
  repeat' (first | ((with_reducible refine kAL ?_); (first | (refine kL 3402 rfl ?_; first | (refine uK (inR_t ?zq0) ?_; (case zq0 => assumption)) | (refine uK (inR_f ?zq0) ?_; (case zq0 => assumption))) | refine uA ?_)) | refine uC ?_ | fail)
  all_goals first | (exfalso; omega) | (exact Fin.q Try.results80 (.cons (.tmp rfl) .nil) [])
 cases h4 : inI c.patience 0 4
 ·rw [show chkC c = false by unfold chkC; simp [*], if_neg (by decide)]
  first | refine Cd.enter' Try.func80 rfl Try.ntmps80 rfl ?_ | refine Cio.enter' Try.func80 rfl Try.ntmps80 rfl qM ?_ | refine C.enter' Try.func80 rfl Try.ntmps80 rfl qM ?_
  repeat' (first | ((with_reducible refine kAL ?_); (first | (refine kL 3402 rfl ?_; first | (refine uK (inR_t ?zq0) ?_; (case zq0 => assumption)) | (refine uK (inR_f ?zq0) ?_; (case zq0 => assumption))) | refine uA ?_)) | refine uC ?_ | fail)
  all_goals first | (exfalso; omega) | (exact Fin.q Try.results80 (.cons (.tmp rfl) .nil) [])
 cases h5 : inI c.tags 1 4294967295
 ·rw [show chkC c = false by unfold chkC; simp [*], if_neg (by decide)]
  first | refine Cd.enter' Try.func80 rfl Try.ntmps80 rfl ?_ | refine Cio.enter' Try.func80 rfl Try.ntmps80 rfl qM ?_ | refine C.enter' Try.func80 rfl Try.ntmps80 rfl qM ?_
  repeat' (first | ((with_reducible refine kAL ?_); (first | (refine kL 3402 rfl ?_; first | (refine uK (inR_t ?zq0) ?_; (case zq0 => assumption)) | (refine uK (inR_f ?zq0) ?_; (case zq0 => assumption))) | refine uA ?_)) | refine uC ?_ | fail)
  all_goals first | (exfalso; omega) | (exact Fin.q Try.results80 (.cons (.tmp rfl) .nil) [])
 cases h6 : inI c.seqs 1 1048575
 ·rw [show chkC c = false by unfold chkC; simp [*], if_neg (by decide)]
  first | refine Cd.enter' Try.func80 rfl Try.ntmps80 rfl ?_ | refine Cio.enter' Try.func80 rfl Try.ntmps80 rfl qM ?_ | refine C.enter' Try.func80 rfl Try.ntmps80 rfl qM ?_
  repeat' (first | ((with_reducible refine kAL ?_); (first | (refine kL 3402 rfl ?_; first | (refine uK (inR_t ?zq0) ?_; (case zq0 => assumption)) | (refine uK (inR_f ?zq0) ?_; (case zq0 => assumption))) | refine uA ?_)) | refine uC ?_ | fail)
  all_goals first | (exfalso; omega) | (exact Fin.q Try.results80 (.cons (.tmp rfl) .nil) [])
 have hC : chkC c = ownC c := by unfold chkC; simp [*]
 rw [hC]
 unfold ownC
 by_cases k : c.kind = 1 ∨ c.kind = 2
 ·rw [if_pos k]
  cases h7 : inI c.cap 1 16
  ·rw [if_neg (by simp)]
   first | refine Cd.enter' Try.func80 rfl Try.ntmps80 rfl ?_ | refine Cio.enter' Try.func80 rfl Try.ntmps80 rfl qM ?_ | refine C.enter' Try.func80 rfl Try.ntmps80 rfl qM ?_
   repeat' (first | ((with_reducible refine kAL ?_); (first | (refine kL 3402 rfl ?_; first | (refine uK (inR_t ?zq0) ?_; (case zq0 => assumption)) | (refine uK (inR_f ?zq0) ?_; (case zq0 => assumption))) | refine uA ?_ | refine uS 42 (fun hb => ?_) (fun hb => ?_))) | refine uC ?_ | fail)
   all_goals first | (exfalso; omega) | (exact Fin.q Try.results80 (.cons (.tmp rfl) .nil) [])
  by_cases e1 : c.chans = 0
  ·by_cases e2 : c.gens = 0
   ·by_cases e3 : c.start.length = 0
    ·have e4 : c.start = [] := hst.2 e3
     rw [if_pos (by simp [e4, e1, e2])]
     first | refine Cd.enter' Try.func80 rfl Try.ntmps80 rfl ?_ | refine Cio.enter' Try.func80 rfl Try.ntmps80 rfl qM ?_ | refine C.enter' Try.func80 rfl Try.ntmps80 rfl qM ?_
     repeat' (first | ((with_reducible refine kAL ?_); (first | (refine kL 3402 rfl ?_; first | (refine uK (inR_t ?zq0) ?_; (case zq0 => assumption))) | refine uA ?_ | refine uS 42 (fun hb => ?_) (fun hb => ?_))) | refine uC ?_ | fail)
     all_goals first | (exfalso; omega) | (exact Fin.q Try.results80 (.cons (.tmp rfl) .nil) [])
    ·have e4 : c.start ≠ [] := fun h => e3 (hst.1 h)
     rw [if_neg (by simp [e4])]
     first | refine Cd.enter' Try.func80 rfl Try.ntmps80 rfl ?_ | refine Cio.enter' Try.func80 rfl Try.ntmps80 rfl qM ?_ | refine C.enter' Try.func80 rfl Try.ntmps80 rfl qM ?_
     repeat' (first | ((with_reducible refine kAL ?_); (first | (refine kL 3402 rfl ?_; first | (refine uK (inR_t ?zq0) ?_; (case zq0 => assumption))) | refine uA ?_ | refine uS 42 (fun hb => ?_) (fun hb => ?_))) | refine uC ?_ | fail)
     all_goals first | (exfalso; omega) | (exact Fin.q Try.results80 (.cons (.tmp rfl) .nil) [])
   ·rw [if_neg (by simp [e2])]
    first | refine Cd.enter' Try.func80 rfl Try.ntmps80 rfl ?_ | refine Cio.enter' Try.func80 rfl Try.ntmps80 rfl qM ?_ | refine C.enter' Try.func80 rfl Try.ntmps80 rfl qM ?_
    repeat' (first | ((with_reducible refine kAL ?_); (first | (refine kL 3402 rfl ?_; first | (refine uK (inR_t ?zq0) ?_; (case zq0 => assumption))) | refine uA ?_ | refine uS 42 (fun hb => ?_) (fun hb => ?_))) | refine uC ?_ | fail)
    all_goals first | (exfalso; omega) | (exact Fin.q Try.results80 (.cons (.tmp rfl) .nil) [])
  ·rw [if_neg (by simp [e1])]
   first | refine Cd.enter' Try.func80 rfl Try.ntmps80 rfl ?_ | refine Cio.enter' Try.func80 rfl Try.ntmps80 rfl qM ?_ | refine C.enter' Try.func80 rfl Try.ntmps80 rfl qM ?_
   repeat' (first | ((with_reducible refine kAL ?_); (first | (refine kL 3402 rfl ?_; first | (refine uK (inR_t ?zq0) ?_; (case zq0 => assumption))) | refine uA ?_ | refine uS 42 (fun hb => ?_) (fun hb => ?_))) | refine uC ?_ | fail)
   all_goals first | (exfalso; omega) | (exact Fin.q Try.results80 (.cons (.tmp rfl) .nil) [])
 ·rw [if_neg k]
  by_cases k3 : c.kind = 3
  ·rw [if_pos k3]
   cases h8 : inI c.chans 1 8
   ·rw [if_neg (by simp)]
    first | refine Cd.enter' Try.func80 rfl Try.ntmps80 rfl ?_ | refine Cio.enter' Try.func80 rfl Try.ntmps80 rfl qM ?_ | refine C.enter' Try.func80 rfl Try.ntmps80 rfl qM ?_
    repeat' (first | ((with_reducible refine kAL ?_); (first | (refine kL 3402 rfl ?_; first | (refine uK (inR_t ?zq0) ?_; (case zq0 => assumption)) | (refine uK (inR_f ?zq0) ?_; (case zq0 => assumption))) | refine uA ?_)) | refine uC ?_ | fail)
    all_goals first | (exfalso; omega) | (exact Fin.q Try.results80 (.cons (.tmp rfl) .nil) [])
   cases h9 : inI c.cap 0 8
   ·rw [if_neg (by simp)]
    first | refine Cd.enter' Try.func80 rfl Try.ntmps80 rfl ?_ | refine Cio.enter' Try.func80 rfl Try.ntmps80 rfl qM ?_ | refine C.enter' Try.func80 rfl Try.ntmps80 rfl qM ?_
    repeat' (first | ((with_reducible refine kAL ?_); (first | (refine kL 3402 rfl ?_; first | (refine uK (inR_t ?zq0) ?_; (case zq0 => assumption)) | (refine uK (inR_f ?zq0) ?_; (case zq0 => assumption))) | refine uA ?_)) | refine uC ?_ | fail)
    all_goals first | (exfalso; omega) | (exact Fin.q Try.results80 (.cons (.tmp rfl) .nil) [])
   cases h10 : inI c.gens 1 4095
   ·rw [if_neg (by simp)]
    first | refine Cd.enter' Try.func80 rfl Try.ntmps80 rfl ?_ | refine Cio.enter' Try.func80 rfl Try.ntmps80 rfl qM ?_ | refine C.enter' Try.func80 rfl Try.ntmps80 rfl qM ?_
    repeat' (first | ((with_reducible refine kAL ?_); (first | (refine kL 3402 rfl ?_; first | (refine uK (inR_t ?zq0) ?_; (case zq0 => assumption)) | (refine uK (inR_f ?zq0) ?_; (case zq0 => assumption))) | refine uA ?_)) | refine uC ?_ | fail)
    all_goals first | (exfalso; omega) | (exact Fin.q Try.results80 (.cons (.tmp rfl) .nil) [])
   by_cases e1 : (c.start.length : Int) ≤ c.chans
   ·rw [decide_eq_true e1]
    simp only [Bool.true_and]
    first | refine Cd.enter' Try.func80 rfl Try.ntmps80 rfl ?_ | refine Cio.enter' Try.func80 rfl Try.ntmps80 rfl qM ?_ | refine C.enter' Try.func80 rfl Try.ntmps80 rfl qM ?_
    repeat' (first | ((with_reducible refine kAL ?_); (first | (refine kL 3402 rfl ?_; first | (refine uK (inR_t ?zq0) ?_; (case zq0 => assumption))) | refine uA ?_)) | refine uC ?_ | fail)
    all_goals first | (exfalso; omega) | skip
    refine AW.loopP (fun (i : Nat) => i ≤ c.start.length ∧ ∀ j, j < i → ∀ a, c.start[j]? = some a → inI a 0 c.cap = true) (fun (i : Nat) => (pu (pu (pu (pu (fun _ => .any) 1 (.ptr 0 0)) 97 (.ln (c.start.map tI))) 98 (i64 (c.start.map tI).length)) 99 (i64 i))) (fun (i : Nat) => [.box 79 [i64 c.kind, i64 c.threads, i64 c.chans, i64 c.cap, i64 c.nodes, i64 c.retire, i64 c.patience, i64 c.tags, i64 c.seqs, i64 c.gens, .ln (c.start.map tI)]]) (fun (i : Nat) => c.start.length - i) (0) ?_ ?_ ?_
    ·exact ⟨Nat.zero_le _, fun j hj => by omega⟩
    ·exact Wk.cq 1
    ·rintro i ⟨h2, h3⟩
     by_cases hi : i < c.start.length
     ·obtain ⟨a, ha⟩ : ∃ a, c.start[i]? = some a := ⟨_, List.getElem?_eq_getElem hi⟩
      cases hv : inI a 0 c.cap
      ·rw [show (c.start.any fun n => !inI n 0 c.cap) = true from List.any_eq_true.2 ⟨a, List.mem_of_getElem? ha, by rw [hv]; rfl⟩]
       repeat' (first | ((with_reducible refine kAL ?_); (first | (refine kL 3402 rfl ?_; first | refine uK (inR_f hv) ?_) | refine uA ?_)) | refine uC ?_ | fail)
       all_goals first | (exfalso; omega) | (exact Fin.q Try.results80 (.cons (.tmp rfl) .nil) [])
      ·repeat' (first | ((with_reducible refine kAL ?_); (first | (refine kL 3402 rfl ?_; first | refine uK (inR_t hv) ?_) | refine uA ?_)) | refine uC ?_ | fail)
       all_goals first | (exfalso; omega) | skip
       refine ⟨i + 1, ⟨by omega, fun j hj b hb => ?_⟩, by omega, ?_⟩
       ·by_cases e : j = i
        ·subst e; rw [ha] at hb; cases hb; exact hv
        ·exact h3 j (by omega) b hb
       ·exact Wk.cq 1
     ·rw [show (c.start.any fun n => !inI n 0 c.cap) = false from List.any_eq_false.2 fun a ha => by
       obtain ⟨j, hj⟩ := List.getElem?_of_mem ha
       rw [h3 j (by have := get_lt hj; omega) a hj]; decide]
      repeat' (first | refine uA ?_ | refine uC ?_ | fail)
      all_goals first | (exfalso; omega) | (exact Fin.q Try.results80 (.cons (.tmp rfl) .nil) [])
   ·rw [if_neg (by simp [e1])]
    first | refine Cd.enter' Try.func80 rfl Try.ntmps80 rfl ?_ | refine Cio.enter' Try.func80 rfl Try.ntmps80 rfl qM ?_ | refine C.enter' Try.func80 rfl Try.ntmps80 rfl qM ?_
    repeat' (first | ((with_reducible refine kAL ?_); (first | (refine kL 3402 rfl ?_; first | (refine uK (inR_t ?zq0) ?_; (case zq0 => assumption))) | refine uA ?_)) | refine uC ?_ | fail)
    all_goals first | (exfalso; omega) | (exact Fin.q Try.results80 (.cons (.tmp rfl) .nil) [])
  ·rw [if_neg k3, if_neg (by decide)]
   first | refine Cd.enter' Try.func80 rfl Try.ntmps80 rfl ?_ | refine Cio.enter' Try.func80 rfl Try.ntmps80 rfl qM ?_ | refine C.enter' Try.func80 rfl Try.ntmps80 rfl qM ?_
   repeat' (first | ((with_reducible refine kAL ?_); (first | (refine kL 3402 rfl ?_; first | (refine uK (inR_t ?zq0) ?_; (case zq0 => assumption))) | refine uA ?_)) | refine uC ?_ | fail)
   all_goals first | (exfalso; omega) | (exact Fin.q Try.results80 (.cons (.tmp rfl) .nil) [])
theorem rstate_c (c : DConf) (hs : c.start.length ≤ 1152921504606846976) : Cd Try.prog 82 [aCf c] (i64 (stateC c)) [] := by
 have c1 := rchk_c c hs
 unfold stateC
 cases hk : chkC c
 ·rw [hk] at c1
  refine Cd.enter' Try.func82 rfl Try.ntmps82 rfl ?_
  repeat' (first | ((with_reducible refine kAL ?_); (first | (refine kL 2570 rfl ?_; first | refine uK (c1) ?_) | refine uA ?_)) | refine uC ?_ | fail)
  all_goals first | (exfalso; omega) | (exact Fin.q Try.results82 (.cons (.tmp rfl) .nil) [])
 ·rw [hk] at c1
  have S := chkC_shaped hk
  have b1 := S.t0
  have b2 := S.t1
  rw [if_pos rfl]
  by_cases k : c.kind = 3
  ·rw [if_pos k]
   have h3 := S.h3 k
   have hp := mulB (a := c.chans) (b := c.cap) (x := 8) (y := 8) (by omega) (by omega) (by omega) (by omega)
   have e : 1 + c.chans * (1 + c.cap) + c.threads * 4 = 1 + c.chans + c.chans * c.cap + 4 * c.threads := by rw [Int.mul_add]; omega
   rw [e]
   refine Cd.enter' Try.func82 rfl Try.ntmps82 rfl ?_
   repeat' (first | ((with_reducible refine kAL ?_); (first | (refine kL 2570 rfl ?_; first | refine uK (c1) ?_) | refine uA ?_)) | refine uC ?_ | fail)
   all_goals first | (exfalso; omega) | (exact Fin.q Try.results82 (.cons (.tmp rfl) .nil) [])
  ·rw [if_neg k]
   have h1 := S.h1 k
   rw [Int.add_comm 1]
   refine Cd.enter' Try.func82 rfl Try.ntmps82 rfl ?_
   repeat' (first | ((with_reducible refine kAL ?_); (first | (refine kL 2570 rfl ?_; first | refine uK (c1) ?_) | refine uA ?_)) | refine uC ?_ | fail)
   all_goals first | (exfalso; omega) | (exact Fin.q Try.results82 (.cons (.tmp rfl) .nil) [])
theorem rsize_c (c : DConf) (hs : c.start.length ≤ 1152921504606846976) : Cd Try.prog 65 [aCf c] (i64 (sizeC c)) [] := by
 have c1 := rchk_c c hs
 have c2 := rstate_c c hs
 unfold sizeC
 cases hk : chkC c
 ·rw [hk] at c1
  refine Cd.enter' Try.func65 rfl Try.ntmps65 rfl ?_
  repeat' (first | ((with_reducible refine kAL ?_); (first | (refine kL 2570 rfl ?_; first | refine uK (c1) ?_) | refine uA ?_)) | refine uC ?_ | fail)
  all_goals first | (exfalso; omega) | (exact Fin.q Try.results65 (.cons (.tmp rfl) .nil) [])
 ·rw [hk] at c1
  have b0 := stateC_b hk
  have S := chkC_shaped hk
  have b1 := S.t0
  have b2 := S.t1
  rw [if_pos rfl]
  refine Cd.enter' Try.func65 rfl Try.ntmps65 rfl ?_
  repeat' (first | ((with_reducible refine kAL ?_); (first | (refine kL 2570 rfl ?_; first | refine uK (c1) ?_) | refine uA ?_)) | ((with_reducible refine kRG ?_); (first | (refine kR 2634 rfl ?_; first | refine uQ (c2) 0 ?_) | refine uR ?_)) | refine uC ?_ | refine AW.drawU (id := 3) mixed 0 qR ?_ | fail)
  all_goals first | (exfalso; omega) | (exact Fin.q Try.results65 (.cons (.tmp rfl) .nil) [])
end
section
attribute [local irreducible] AL AW RG Fin C Cd Cio thenQ blockQ retQ
set_option maxRecDepth 100000
abbrev Wi (x : Int) : Int := IntKind.i64.wrap x
def nodeL (c : DConf) (i : Int) : Int := Wi (Wi (3 + Wi (c.threads * 9)) + Wi (i * (1 + sizeC c)))
def nodesL (c : DConf) : Int := if chkC c then 1 + c.threads * c.nodes else 0
def totL (c : DConf) : Int := if chkC c then 3 + c.threads * 9 + nodesL c * (1 + sizeC c) else 0
theorem sizeC_b (c : DConf) : 0 ≤ sizeC c ∧ sizeC c ≤ 393 := by
 unfold sizeC
 cases h : chkC c
 ·rw [if_neg (by decide)]; decide
 ·have := stateC_b h
  have S := chkC_shaped h
  have := S.t0
  have := S.t1
  rw [if_pos rfl]; omega
theorem nodesL_b {c : DConf} (h : chkC c = true) : 1 ≤ nodesL c ∧ nodesL c ≤ 4097 := by
 have h0 := h
 unfold chkC at h
 simp only [Bool.and_eq_true, inI_iff] at h
 obtain ⟨⟨⟨⟨⟨⟨a, b⟩, _⟩, _⟩, _⟩, _⟩, _⟩ := h
 have := mulB (a := c.threads) (b := c.nodes) (x := 64) (y := 64) (by omega) (by omega) (by omega) (by omega)
 unfold nodesL; rw [if_pos h0]; omega
theorem Wi_in {x : Int} (h : -9223372036854775808 ≤ x ∧ x ≤ 9223372036854775807) : Wi x = x := IntWalk.i64_in x h
theorem nodeL_in {c : DConf} (h : chkC c = true) {i : Int} (h0 : 0 ≤ i) (h1 : i ≤ 4097) : nodeL c i = 3 + c.threads * 9 + i * (1 + sizeC c) := by
 have S := chkC_shaped h
 have t0 := S.t0
 have t1 := S.t1
 have b := sizeC_b c
 have := mulB (a := i) (b := 1 + sizeC c) (x := 4097) (y := 394) h0 h1 (by omega) (by omega)
 unfold nodeL
 rw [Wi_in (x := c.threads * 9) (by omega), Wi_in (x := 3 + c.threads * 9) (by omega), Wi_in (x := i * (1 + sizeC c)) (by omega), Wi_in (by omega)]
theorem first4_c (c : DConf) : Cd Try.prog 84 [aCf c, i64 4] (i64 3) [] := by
 refine Cd.enter' Try.func84 rfl Try.ntmps84 rfl ?_
 repeat' (first | refine uA ?_ | refine uC ?_ | fail)
 all_goals first | (exfalso; omega) | (exact Fin.q Try.results84 (.cons (.tmp rfl) .nil) [])
theorem first5_c (c : DConf) : Cd Try.prog 84 [aCf c, i64 5] (i64 (Wi (3 + c.threads))) [] := by
 refine Cd.enter' Try.func84 rfl Try.ntmps84 rfl ?_
 repeat' (first | refine uA ?_ | refine uC ?_ | fail)
 all_goals first | (exfalso; omega) | (exact Fin.q Try.results84 (.cons (.tmp rfl) .nil) [])
theorem first6_c (c : DConf) : Cd Try.prog 84 [aCf c, i64 6] (i64 (Wi (3 + Wi (c.threads * 6)))) [] := by
 refine Cd.enter' Try.func84 rfl Try.ntmps84 rfl ?_
 repeat' (first | refine uA ?_ | refine uC ?_ | fail)
 all_goals first | (exfalso; omega) | (exact Fin.q Try.results84 (.cons (.tmp rfl) .nil) [])
theorem first7_c (c : DConf) : Cd Try.prog 84 [aCf c, i64 7] (i64 (Wi (3 + Wi (c.threads * 7)))) [] := by
 refine Cd.enter' Try.func84 rfl Try.ntmps84 rfl ?_
 repeat' (first | refine uA ?_ | refine uC ?_ | fail)
 all_goals first | (exfalso; omega) | (exact Fin.q Try.results84 (.cons (.tmp rfl) .nil) [])
theorem first8_c (c : DConf) : Cd Try.prog 84 [aCf c, i64 8] (i64 (Wi (3 + Wi (c.threads * 8)))) [] := by
 refine Cd.enter' Try.func84 rfl Try.ntmps84 rfl ?_
 repeat' (first | refine uA ?_ | refine uC ?_ | fail)
 all_goals first | (exfalso; omega) | (exact Fin.q Try.results84 (.cons (.tmp rfl) .nil) [])
theorem first9_c (c : DConf) : Cd Try.prog 84 [aCf c, i64 9] (i64 (Wi (3 + Wi (c.threads * 9)))) [] := by
 refine Cd.enter' Try.func84 rfl Try.ntmps84 rfl ?_
 repeat' (first | refine uA ?_ | refine uC ?_ | fail)
 all_goals first | (exfalso; omega) | (exact Fin.q Try.results84 (.cons (.tmp rfl) .nil) [])
theorem nodeL_c (c : DConf) (hs : c.start.length ≤ 1152921504606846976) (i : Int) : Cd Try.prog 108 [aCf c, i64 i] (i64 (nodeL c i)) [] := by
 have c2 := size_c c hs
 have b := sizeC_b c
 unfold nodeL
 generalize sizeC c = z at *
 refine Cd.enter' Try.func108 rfl Try.ntmps108 rfl ?_
 repeat' (first | refine uA ?_ | ((with_reducible refine kRG ?_); (first | (refine kR 2698 rfl ?_; first | refine uQ (first9_c c) 0 ?_) | (refine kR 2730 rfl ?_; first | refine uQ (c2) 0 ?_) | refine uR ?_)) | refine uC ?_ | refine AW.drawU (id := 1) mixed 0 qR ?_ | fail)
 all_goals first | (exfalso; omega) | (exact Fin.q Try.results108 (.cons (.tmp rfl) .nil) [])
theorem nodesL_c (c : DConf) (hs : c.start.length ≤ 1152921504606846976) : Cd Try.prog 109 [aCf c] (i64 (nodesL c)) [] := by
 have c1 := check_c c hs
 have b : chkC c = true → nodesL c = 1 + c.threads * c.nodes ∧ 1 ≤ nodesL c ∧ nodesL c ≤ 4097 := fun h => ⟨by unfold nodesL; rw [if_pos h], nodesL_b h⟩
 cases hk : chkC c
 ·rw [hk] at c1
  rw [show nodesL c = 0 by unfold nodesL; rw [hk]; rfl]
  refine Cd.enter' Try.func109 rfl Try.ntmps109 rfl ?_
  repeat' (first | ((with_reducible refine kAL ?_); (first | (refine kL 3434 rfl ?_; first | refine uK (c1) ?_) | refine uA ?_)) | refine uC ?_ | fail)
  all_goals first | (exfalso; omega) | (exact Fin.q Try.results109 (.cons (.tmp rfl) .nil) [])
 ·rw [hk] at c1
  obtain ⟨e, b1, b2⟩ := b hk
  rw [e] at b1 b2 ⊢
  refine Cd.enter' Try.func109 rfl Try.ntmps109 rfl ?_
  repeat' (first | ((with_reducible refine kAL ?_); (first | (refine kL 3434 rfl ?_; first | refine uK (c1) ?_) | refine uA ?_)) | refine uC ?_ | fail)
  all_goals first | (exfalso; omega) | (exact Fin.q Try.results109 (.cons (.tmp rfl) .nil) [])
theorem rnodesL_c (c : DConf) (hs : c.start.length ≤ 1152921504606846976) : Cd Try.prog 81 [aCf c] (i64 (nodesL c)) [] := by
 have c1 := rchk_c c hs
 have b : chkC c = true → nodesL c = c.threads * c.nodes + 1 ∧ 1 ≤ nodesL c ∧ nodesL c ≤ 4097 := fun h => ⟨by unfold nodesL; rw [if_pos h, Int.add_comm], nodesL_b h⟩
 cases hk : chkC c
 ·rw [hk] at c1
  rw [show nodesL c = 0 by unfold nodesL; rw [hk]; rfl]
  refine Cd.enter' Try.func81 rfl Try.ntmps81 rfl ?_
  repeat' (first | ((with_reducible refine kAL ?_); (first | (refine kL 2570 rfl ?_; first | refine uK (c1) ?_) | refine uA ?_)) | refine uC ?_ | fail)
  all_goals first | (exfalso; omega) | (exact Fin.q Try.results81 (.cons (.tmp rfl) .nil) [])
 ·rw [hk] at c1
  obtain ⟨e, b1, b2⟩ := b hk
  rw [e] at b1 b2 ⊢
  refine Cd.enter' Try.func81 rfl Try.ntmps81 rfl ?_
  repeat' (first | ((with_reducible refine kAL ?_); (first | (refine kL 2570 rfl ?_; first | refine uK (c1) ?_) | refine uA ?_)) | refine uC ?_ | fail)
  all_goals first | (exfalso; omega) | (exact Fin.q Try.results81 (.cons (.tmp rfl) .nil) [])
theorem totL_b {c : DConf} (h : chkC c = true) : totL c = nodeL c (nodesL c) ∧ totL c = 3 + c.threads * 9 + nodesL c * (1 + sizeC c) ∧ 0 ≤ nodesL c * (1 + sizeC c) ∧ nodesL c * (1 + sizeC c) ≤ 1614218 := by
 have b := nodesL_b h
 have z := sizeC_b c
 have := mulB (a := nodesL c) (b := 1 + sizeC c) (x := 4097) (y := 394) (by omega) (by omega) (by omega) (by omega)
 have e : totL c = 3 + c.threads * 9 + nodesL c * (1 + sizeC c) := by unfold totL; rw [if_pos h]
 exact ⟨by rw [nodeL_in h (by omega) (by omega), e], e, by omega, by omega⟩
theorem totL_c (c : DConf) (hs : c.start.length ≤ 1152921504606846976) : Cd Try.prog 83 [aCf c] (i64 (totL c)) [] := by
 have c1 := check_c c hs
 have c2 := nodesL_c c hs
 have c3 := nodeL_c c hs (nodesL c)
 cases hk : chkC c
 ·rw [hk] at c1
  rw [show totL c = 0 by unfold totL; rw [hk]; rfl]
  refine Cd.enter' Try.func83 rfl Try.ntmps83 rfl ?_
  repeat' (first | ((with_reducible refine kAL ?_); (first | (refine kL 3434 rfl ?_; first | refine uK (c1) ?_) | refine uA ?_)) | refine uC ?_ | fail)
  all_goals first | (exfalso; omega) | (exact Fin.q Try.results83 (.cons (.tmp rfl) .nil) [])
 ·rw [hk] at c1
  rw [(totL_b hk).1]
  refine Cd.enter' Try.func83 rfl Try.ntmps83 rfl ?_
  repeat' (first | ((with_reducible refine kAL ?_); (first | (refine kL 3434 rfl ?_; first | refine uK (c1) ?_) | refine uA ?_)) | ((with_reducible refine kRG ?_); (first | (refine kR 3498 rfl ?_; first | refine uQ (c2) 0 ?_) | (refine kR 3466 rfl ?_; first | refine uQ (c3) 0 ?_) | refine uR ?_)) | refine uC ?_ | refine AW.drawU (id := 3) mixed 0 qR ?_ | fail)
  all_goals first | (exfalso; omega) | (exact Fin.q Try.results83 (.cons (.tmp rfl) .nil) [])
theorem rtotL_c (c : DConf) (hs : c.start.length ≤ 1152921504606846976) : Cd Try.prog 64 [aCf c] (i64 (totL c)) [] := by
 have c1 := rchk_c c hs
 have c2 := rnodesL_c c hs
 have c3 := rsize_c c hs
 cases hk : chkC c
 ·rw [hk] at c1
  rw [show totL c = 0 by unfold totL; rw [hk]; rfl]
  refine Cd.enter' Try.func64 rfl Try.ntmps64 rfl ?_
  repeat' (first | ((with_reducible refine kAL ?_); (first | (refine kL 2570 rfl ?_; first | refine uK (c1) ?_) | refine uA ?_)) | refine uC ?_ | fail)
  all_goals first | (exfalso; omega) | (exact Fin.q Try.results64 (.cons (.tmp rfl) .nil) [])
 ·rw [hk] at c1
  obtain ⟨_, e, b1, b2⟩ := totL_b hk
  have S := chkC_shaped hk
  have t0 := S.t0
  have t1 := S.t1
  have z := sizeC_b c
  have y := nodesL_b hk
  rw [e, Int.mul_comm c.threads 9]
  generalize sizeC c = zz at *
  generalize nodesL c = yy at *
  refine Cd.enter' Try.func64 rfl Try.ntmps64 rfl ?_
  repeat' (first | ((with_reducible refine kAL ?_); (first | (refine kL 2570 rfl ?_; first | refine uK (c1) ?_) | refine uA ?_)) | ((with_reducible refine kRG ?_); (first | (refine kR 2602 rfl ?_; first | refine uQ (c2) 0 ?_) | (refine kR 2090 rfl ?_; first | refine uQ (c3) 0 ?_) | refine uR ?_)) | refine uC ?_ | refine AW.drawU (id := 3) mixed 0 qR ?_ | fail)
  all_goals first | (exfalso; omega) | (exact Fin.q Try.results64 (.cons (.tmp rfl) .nil) [])
end
section
def whatL (T z tot addr : Int) : Int × Int × Int :=
 if addr < 0 ∨ tot ≤ addr then (0, 0, 0)
 else if addr < 3 then (addr + 1, 0, 0)
 else if addr - 3 < T then (4, addr - 3, 0)
 else if addr - 3 < 6 * T then (5, (addr - 3 - T) / 5, (addr - 3 - T) % 5)
 else if addr - 3 < 7 * T then (6, addr - 3 - 6 * T, 0)
 else if addr - 3 < 8 * T then (7, addr - 3 - 7 * T, 0)
 else if addr - 3 < 9 * T then (8, addr - 3 - 8 * T, 0)
 else if (addr - 3 - 9 * T) % z = 0 then (9, (addr - 3 - 9 * T) / z, 0)
 else (10, (addr - 3 - 9 * T) / z, (addr - 3 - 9 * T) % z - 1)
end
end Go.Proofs.Ytnibnbcmnaflmaa
