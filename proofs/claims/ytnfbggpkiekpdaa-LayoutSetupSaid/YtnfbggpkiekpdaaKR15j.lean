/- Joined: XTShapeR, XTLayout, XTReader, XTCloneU, XTPokeP. -/
import Derived.Test.YtnfbggpkiekpdaaKR15h
import Derived.Test.YtnfbggpkiekpdaaKR15i
import Derived.Test.YtnfbggpkiekpdaaKR15d
import Derived.Test.YtnfbggpkiekpdaaKR15c
namespace Go.Proofs.Ytnfbggpkiekpdaa
open Go.RowKit
set_option linter.unusedVariables false
set_option linter.unusedSimpArgs false
set_option linter.unnecessarySimpa false
set_option maxRecDepth 100000
set_option maxHeartbeats 64000000
section
attribute [local irreducible] AL AW RG Fin C Cd Cio thenQ blockQ retQ
set_option maxRecDepth 100000
theorem mulB {a b x y : Int} (h1 : 0 ≤ a) (h2 : a ≤ x) (h3 : 0 ≤ b) (h4 : b ≤ y) : 0 ≤ a * b ∧ a * b ≤ x * y := ⟨Int.mul_nonneg h1 h3, Int.mul_le_mul h2 h4 h3 (by omega)⟩
theorem state_c (c : DConf) (hs : c.start.length ≤ 1152921504606846976) : Cd Try.prog 88 [aCf c] (i64 (stateC c)) [] := by
 have c1 := check_c c hs
 unfold stateC
 cases hk : chkC c
 ·rw [hk] at c1
  refine Cd.enter' Try.func88 rfl Try.ntmps88 rfl ?_
  repeat' (first | ((with_reducible refine kAL ?_); (first | (refine kL 2314 rfl ?_; first | refine uK (c1) ?_) | refine uA ?_)) | refine uC ?_ | fail)
  all_goals first | (exfalso; omega) | (exact Fin.q Try.results88 (.cons (.tmp rfl) .nil) [])
 ·rw [hk] at c1
  have S := chkC_shaped hk
  have b1 := S.t0
  have b2 := S.t1
  rw [if_pos rfl]
  by_cases k : c.kind = 3
  ·rw [if_pos k]
   have h3 := S.h3 k
   have hp := mulB (a := c.chans) (b := 1 + c.cap) (x := 8) (y := 9) (by omega) (by omega) (by omega) (by omega)
   refine Cd.enter' Try.func88 rfl Try.ntmps88 rfl ?_
   repeat' (first | ((with_reducible refine kAL ?_); (first | (refine kL 2314 rfl ?_; first | refine uK (c1) ?_) | refine uA ?_)) | refine uC ?_ | fail)
   all_goals first | (exfalso; omega) | (exact Fin.q Try.results88 (.cons (.tmp rfl) .nil) [])
  ·rw [if_neg k]
   have h1 := S.h1 k
   refine Cd.enter' Try.func88 rfl Try.ntmps88 rfl ?_
   repeat' (first | ((with_reducible refine kAL ?_); (first | (refine kL 2314 rfl ?_; first | refine uK (c1) ?_) | refine uA ?_)) | refine uC ?_ | fail)
   all_goals first | (exfalso; omega) | (exact Fin.q Try.results88 (.cons (.tmp rfl) .nil) [])
theorem stateC_b {c : DConf} (h : chkC c = true) : 0 ≤ stateC c ∧ stateC c ≤ 329 := by
 have S := chkC_shaped h
 have b1 := S.t0
 have b2 := S.t1
 unfold stateC
 rw [if_pos h]
 by_cases k : c.kind = 3
 ·rw [if_pos k]
  have h3 := S.h3 k
  have hp := mulB (a := c.chans) (b := 1 + c.cap) (x := 8) (y := 9) (by omega) (by omega) (by omega) (by omega)
  omega
 ·rw [if_neg k]
  have h1 := S.h1 k
  omega
theorem size_c (c : DConf) (hs : c.start.length ≤ 1152921504606846976) : Cd Try.prog 70 [aCf c] (i64 (sizeC c)) [] := by
 have c1 := check_c c hs
 have c2 := state_c c hs
 unfold sizeC
 cases hk : chkC c
 ·rw [hk] at c1
  refine Cd.enter' Try.func70 rfl Try.ntmps70 rfl ?_
  repeat' (first | ((with_reducible refine kAL ?_); (first | (refine kL 2314 rfl ?_; first | refine uK (c1) ?_) | refine uA ?_)) | refine uC ?_ | fail)
  all_goals first | (exfalso; omega) | (exact Fin.q Try.results70 (.cons (.tmp rfl) .nil) [])
 ·rw [hk] at c1
  have b0 := stateC_b hk
  have S := chkC_shaped hk
  have b1 := S.t0
  have b2 := S.t1
  rw [if_pos rfl]
  refine Cd.enter' Try.func70 rfl Try.ntmps70 rfl ?_
  repeat' (first | ((with_reducible refine kAL ?_); (first | (refine kL 2314 rfl ?_; first | refine uK (c1) ?_) | refine uA ?_)) | ((with_reducible refine kRG ?_); (first | (refine kR 2826 rfl ?_; first | refine uQ (c2) 0 ?_) | refine uR ?_)) | refine uC ?_ | refine AW.drawU (id := 3) mixed 0 qR ?_ | fail)
  all_goals first | (exfalso; omega) | (exact Fin.q Try.results70 (.cons (.tmp rfl) .nil) [])
theorem inR_t {n a b : Int} (h : inI n a b = true) : Cd Try.prog 75 [i64 n, i64 a, i64 b] (bo true) [] := by rw [← h]; exact inR_c n a b
theorem inR_f {n a b : Int} (h : inI n a b = false) : Cd Try.prog 75 [i64 n, i64 a, i64 b] (bo false) [] := by rw [← h]; exact inR_c n a b
theorem rchk_c (c : DConf) (hs : c.start.length ≤ 1152921504606846976) : Cd Try.prog 43 [aCf c] (i64 (if chkC c then 0 else 1)) [] := by
 have h0 : (c.start.map tI).length = c.start.length := List.length_map _
 have hst : c.start = [] ↔ c.start.length = 0 := List.length_eq_zero_iff.symm
 cases h1 : inI c.threads 1 64
 ·rw [show chkC c = false by unfold chkC; simp [*], if_neg (by decide)]
  first | refine Cd.enter' Try.func43 rfl Try.ntmps43 rfl ?_ | refine Cio.enter' Try.func43 rfl Try.ntmps43 rfl qM ?_ | refine C.enter' Try.func43 rfl Try.ntmps43 rfl qM ?_
  repeat' (first | ((with_reducible refine kAL ?_); (first | (refine kL 2410 rfl ?_; first | (refine uK (inR_f ?zq0) ?_; (case zq0 => assumption))) | refine uA ?_)) | refine uC ?_ | fail)
  all_goals first | (exfalso; omega) | (exact Fin.q Try.results43 (.cons (.tmp rfl) .nil) [])
 cases h2 : inI c.nodes 1 64
 ·rw [show chkC c = false by unfold chkC; simp [*], if_neg (by decide)]
  first | refine Cd.enter' Try.func43 rfl Try.ntmps43 rfl ?_ | refine Cio.enter' Try.func43 rfl Try.ntmps43 rfl qM ?_ | refine C.enter' Try.func43 rfl Try.ntmps43 rfl qM ?_
  repeat' (first | ((with_reducible refine kAL ?_); (first | (refine kL 2410 rfl ?_; first | (refine uK (inR_t ?zq0) ?_; (case zq0 => assumption)) | (refine uK (inR_f ?zq0) ?_; (case zq0 => assumption))) | refine uA ?_)) | refine uC ?_ | fail)
  all_goals first | (exfalso; omega) | (exact Fin.q Try.results43 (.cons (.tmp rfl) .nil) [])
 cases h3 : inI c.retire 1 32
 ·rw [show chkC c = false by unfold chkC; simp [*], if_neg (by decide)]
  first | refine Cd.enter' Try.func43 rfl Try.ntmps43 rfl ?_ | refine Cio.enter' Try.func43 rfl Try.ntmps43 rfl qM ?_ | refine C.enter' Try.func43 rfl Try.ntmps43 rfl qM ?_
  repeat' (first | ((with_reducible refine kAL ?_); (first | (refine kL 2410 rfl ?_; first | (refine uK (inR_t ?zq0) ?_; (case zq0 => assumption)) | (refine uK (inR_f ?zq0) ?_; (case zq0 => assumption))) | refine uA ?_)) | refine uC ?_ | fail)
  all_goals first | (exfalso; omega) | (exact Fin.q Try.results43 (.cons (.tmp rfl) .nil) [])
 cases h4 : inI c.patience 0 4
 ·rw [show chkC c = false by unfold chkC; simp [*], if_neg (by decide)]
  first | refine Cd.enter' Try.func43 rfl Try.ntmps43 rfl ?_ | refine Cio.enter' Try.func43 rfl Try.ntmps43 rfl qM ?_ | refine C.enter' Try.func43 rfl Try.ntmps43 rfl qM ?_
  repeat' (first | ((with_reducible refine kAL ?_); (first | (refine kL 2410 rfl ?_; first | (refine uK (inR_t ?zq0) ?_; (case zq0 => assumption)) | (refine uK (inR_f ?zq0) ?_; (case zq0 => assumption))) | refine uA ?_)) | refine uC ?_ | fail)
  all_goals first | (exfalso; omega) | (exact Fin.q Try.results43 (.cons (.tmp rfl) .nil) [])
 cases h5 : inI c.tags 1 4294967295
 ·rw [show chkC c = false by unfold chkC; simp [*], if_neg (by decide)]
  first | refine Cd.enter' Try.func43 rfl Try.ntmps43 rfl ?_ | refine Cio.enter' Try.func43 rfl Try.ntmps43 rfl qM ?_ | refine C.enter' Try.func43 rfl Try.ntmps43 rfl qM ?_
  repeat' (first | ((with_reducible refine kAL ?_); (first | (refine kL 2410 rfl ?_; first | (refine uK (inR_t ?zq0) ?_; (case zq0 => assumption)) | (refine uK (inR_f ?zq0) ?_; (case zq0 => assumption))) | refine uA ?_)) | refine uC ?_ | fail)
  all_goals first | (exfalso; omega) | (exact Fin.q Try.results43 (.cons (.tmp rfl) .nil) [])
 cases h6 : inI c.seqs 1 1048575
 ·rw [show chkC c = false by unfold chkC; simp [*], if_neg (by decide)]
  first | refine Cd.enter' Try.func43 rfl Try.ntmps43 rfl ?_ | refine Cio.enter' Try.func43 rfl Try.ntmps43 rfl qM ?_ | refine C.enter' Try.func43 rfl Try.ntmps43 rfl qM ?_
  repeat' (first | ((with_reducible refine kAL ?_); (first | (refine kL 2410 rfl ?_; first | (refine uK (inR_t ?zq0) ?_; (case zq0 => assumption)) | (refine uK (inR_f ?zq0) ?_; (case zq0 => assumption))) | refine uA ?_)) | refine uC ?_ | fail)
  all_goals first | (exfalso; omega) | (exact Fin.q Try.results43 (.cons (.tmp rfl) .nil) [])
 have hC : chkC c = ownC c := by unfold chkC; simp [*]
 rw [hC]
 unfold ownC
 by_cases k : c.kind = 1 ∨ c.kind = 2
 ·rw [if_pos k]
  cases h7 : inI c.cap 1 16
  ·rw [if_neg (by simp)]
   first | refine Cd.enter' Try.func43 rfl Try.ntmps43 rfl ?_ | refine Cio.enter' Try.func43 rfl Try.ntmps43 rfl qM ?_ | refine C.enter' Try.func43 rfl Try.ntmps43 rfl qM ?_
   repeat' (first | ((with_reducible refine kAL ?_); (first | (refine kL 2410 rfl ?_; first | (refine uK (inR_t ?zq0) ?_; (case zq0 => assumption)) | (refine uK (inR_f ?zq0) ?_; (case zq0 => assumption))) | refine uA ?_ | refine uS 42 (fun hb => ?_) (fun hb => ?_))) | refine uC ?_ | fail)
   all_goals first | (exfalso; omega) | (exact Fin.q Try.results43 (.cons (.tmp rfl) .nil) [])
  by_cases e1 : c.chans = 0
  ·by_cases e2 : c.gens = 0
   ·by_cases e3 : c.start.length = 0
    ·have e4 : c.start = [] := hst.2 e3
     rw [if_pos (by simp [e4, e1, e2])]
     first | refine Cd.enter' Try.func43 rfl Try.ntmps43 rfl ?_ | refine Cio.enter' Try.func43 rfl Try.ntmps43 rfl qM ?_ | refine C.enter' Try.func43 rfl Try.ntmps43 rfl qM ?_
     repeat' (first | ((with_reducible refine kAL ?_); (first | (refine kL 2410 rfl ?_; first | (refine uK (inR_t ?zq0) ?_; (case zq0 => assumption))) | refine uA ?_ | refine uS 42 (fun hb => ?_) (fun hb => ?_))) | refine uC ?_ | fail)
     all_goals first | (exfalso; omega) | (exact Fin.q Try.results43 (.cons (.tmp rfl) .nil) [])
    ·have e4 : c.start ≠ [] := fun h => e3 (hst.1 h)
     rw [if_neg (by simp [e4])]
     first | refine Cd.enter' Try.func43 rfl Try.ntmps43 rfl ?_ | refine Cio.enter' Try.func43 rfl Try.ntmps43 rfl qM ?_ | refine C.enter' Try.func43 rfl Try.ntmps43 rfl qM ?_
     repeat' (first | ((with_reducible refine kAL ?_); (first | (refine kL 2410 rfl ?_; first | (refine uK (inR_t ?zq0) ?_; (case zq0 => assumption))) | refine uA ?_ | refine uS 42 (fun hb => ?_) (fun hb => ?_))) | refine uC ?_ | fail)
     all_goals first | (exfalso; omega) | (exact Fin.q Try.results43 (.cons (.tmp rfl) .nil) [])
   ·rw [if_neg (by simp [e2])]
    first | refine Cd.enter' Try.func43 rfl Try.ntmps43 rfl ?_ | refine Cio.enter' Try.func43 rfl Try.ntmps43 rfl qM ?_ | refine C.enter' Try.func43 rfl Try.ntmps43 rfl qM ?_
    repeat' (first | ((with_reducible refine kAL ?_); (first | (refine kL 2410 rfl ?_; first | (refine uK (inR_t ?zq0) ?_; (case zq0 => assumption))) | refine uA ?_ | refine uS 42 (fun hb => ?_) (fun hb => ?_))) | refine uC ?_ | fail)
    all_goals first | (exfalso; omega) | (exact Fin.q Try.results43 (.cons (.tmp rfl) .nil) [])
  ·rw [if_neg (by simp [e1])]
   first | refine Cd.enter' Try.func43 rfl Try.ntmps43 rfl ?_ | refine Cio.enter' Try.func43 rfl Try.ntmps43 rfl qM ?_ | refine C.enter' Try.func43 rfl Try.ntmps43 rfl qM ?_
   repeat' (first | ((with_reducible refine kAL ?_); (first | (refine kL 2410 rfl ?_; first | (refine uK (inR_t ?zq0) ?_; (case zq0 => assumption))) | refine uA ?_ | refine uS 42 (fun hb => ?_) (fun hb => ?_))) | refine uC ?_ | fail)
   all_goals first | (exfalso; omega) | (exact Fin.q Try.results43 (.cons (.tmp rfl) .nil) [])
 ·rw [if_neg k]
  by_cases k3 : c.kind = 3
  ·rw [if_pos k3]
   cases h8 : inI c.chans 1 8
   ·rw [if_neg (by simp)]
    first | refine Cd.enter' Try.func43 rfl Try.ntmps43 rfl ?_ | refine Cio.enter' Try.func43 rfl Try.ntmps43 rfl qM ?_ | refine C.enter' Try.func43 rfl Try.ntmps43 rfl qM ?_
    repeat' (first | ((with_reducible refine kAL ?_); (first | (refine kL 2410 rfl ?_; first | (refine uK (inR_t ?zq0) ?_; (case zq0 => assumption)) | (refine uK (inR_f ?zq0) ?_; (case zq0 => assumption))) | refine uA ?_)) | refine uC ?_ | fail)
    all_goals first | (exfalso; omega) | (exact Fin.q Try.results43 (.cons (.tmp rfl) .nil) [])
   cases h9 : inI c.cap 0 8
   ·rw [if_neg (by simp)]
    first | refine Cd.enter' Try.func43 rfl Try.ntmps43 rfl ?_ | refine Cio.enter' Try.func43 rfl Try.ntmps43 rfl qM ?_ | refine C.enter' Try.func43 rfl Try.ntmps43 rfl qM ?_
    repeat' (first | ((with_reducible refine kAL ?_); (first | (refine kL 2410 rfl ?_; first | (refine uK (inR_t ?zq0) ?_; (case zq0 => assumption)) | (refine uK (inR_f ?zq0) ?_; (case zq0 => assumption))) | refine uA ?_)) | refine uC ?_ | fail)
    all_goals first | (exfalso; omega) | (exact Fin.q Try.results43 (.cons (.tmp rfl) .nil) [])
   cases h10 : inI c.gens 1 4095
   ·rw [if_neg (by simp)]
    first | refine Cd.enter' Try.func43 rfl Try.ntmps43 rfl ?_ | refine Cio.enter' Try.func43 rfl Try.ntmps43 rfl qM ?_ | refine C.enter' Try.func43 rfl Try.ntmps43 rfl qM ?_
    repeat' (first | ((with_reducible refine kAL ?_); (first | (refine kL 2410 rfl ?_; first | (refine uK (inR_t ?zq0) ?_; (case zq0 => assumption)) | (refine uK (inR_f ?zq0) ?_; (case zq0 => assumption))) | refine uA ?_)) | refine uC ?_ | fail)
    all_goals first | (exfalso; omega) | (exact Fin.q Try.results43 (.cons (.tmp rfl) .nil) [])
   by_cases e1 : (c.start.length : Int) ≤ c.chans
   ·rw [decide_eq_true e1]
    simp only [Bool.true_and]
    first | refine Cd.enter' Try.func43 rfl Try.ntmps43 rfl ?_ | refine Cio.enter' Try.func43 rfl Try.ntmps43 rfl qM ?_ | refine C.enter' Try.func43 rfl Try.ntmps43 rfl qM ?_
    repeat' (first | ((with_reducible refine kAL ?_); (first | (refine kL 2410 rfl ?_; first | (refine uK (inR_t ?zq0) ?_; (case zq0 => assumption))) | refine uA ?_)) | refine uC ?_ | fail)
    all_goals first | (exfalso; omega) | skip
    refine AW.loopP (fun (i : Nat) => i ≤ c.start.length ∧ ∀ j, j < i → ∀ a, c.start[j]? = some a → inI a 0 c.cap = true) (fun (i : Nat) => (pu (pu (pu (pu (fun _ => .any) 1 (.ptr 0 0)) 97 (.ln (c.start.map tI))) 98 (i64 (c.start.map tI).length)) 99 (i64 i))) (fun (i : Nat) => [.box 24 [i64 c.kind, i64 c.threads, i64 c.chans, i64 c.cap, i64 c.nodes, i64 c.retire, i64 c.patience, i64 c.tags, i64 c.seqs, i64 c.gens, .ln (c.start.map tI)]]) (fun (i : Nat) => c.start.length - i) (0) ?_ ?_ ?_
    ·exact ⟨Nat.zero_le _, fun j hj => by omega⟩
    ·exact Wk.cq 1
    ·rintro i ⟨h2, h3⟩
     by_cases hi : i < c.start.length
     ·obtain ⟨a, ha⟩ : ∃ a, c.start[i]? = some a := ⟨_, List.getElem?_eq_getElem hi⟩
      cases hv : inI a 0 c.cap
      ·rw [show (c.start.any fun n => !inI n 0 c.cap) = true from List.any_eq_true.2 ⟨a, List.mem_of_getElem? ha, by rw [hv]; rfl⟩]
       repeat' (first | ((with_reducible refine kAL ?_); (first | (refine kL 2410 rfl ?_; first | refine uK (inR_f hv) ?_) | refine uA ?_)) | refine uC ?_ | fail)
       all_goals first | (exfalso; omega) | (exact Fin.q Try.results43 (.cons (.tmp rfl) .nil) [])
      ·repeat' (first | ((with_reducible refine kAL ?_); (first | (refine kL 2410 rfl ?_; first | refine uK (inR_t hv) ?_) | refine uA ?_)) | refine uC ?_ | fail)
       all_goals first | (exfalso; omega) | skip
       refine ⟨i + 1, ⟨by omega, fun j hj b hb => ?_⟩, by omega, ?_⟩
       ·by_cases e : j = i
        ·subst e; rw [ha] at hb; cases hb; exact hv
        ·exact h3 j (by omega) b hb
       ·exact Wk.cq 1
     ·rw [show (c.start.any fun n => !inI n 0 c.cap) = false from List.any_eq_false.2 fun a ha => by
       obtain ⟨j, hj⟩ := List.getElem?_of_mem ha
       rw [h3 j (by have := get_lt hj; omega) a hj]; decide]
      repeat' (first | refine uA ?_ | refine uC ?_ | fail)
      all_goals first | (exfalso; omega) | (exact Fin.q Try.results43 (.cons (.tmp rfl) .nil) [])
   ·rw [if_neg (by simp [e1])]
    first | refine Cd.enter' Try.func43 rfl Try.ntmps43 rfl ?_ | refine Cio.enter' Try.func43 rfl Try.ntmps43 rfl qM ?_ | refine C.enter' Try.func43 rfl Try.ntmps43 rfl qM ?_
    repeat' (first | ((with_reducible refine kAL ?_); (first | (refine kL 2410 rfl ?_; first | (refine uK (inR_t ?zq0) ?_; (case zq0 => assumption))) | refine uA ?_)) | refine uC ?_ | fail)
    all_goals first | (exfalso; omega) | (exact Fin.q Try.results43 (.cons (.tmp rfl) .nil) [])
  ·rw [if_neg k3, if_neg (by decide)]
   first | refine Cd.enter' Try.func43 rfl Try.ntmps43 rfl ?_ | refine Cio.enter' Try.func43 rfl Try.ntmps43 rfl qM ?_ | refine C.enter' Try.func43 rfl Try.ntmps43 rfl qM ?_
   repeat' (first | ((with_reducible refine kAL ?_); (first | (refine kL 2410 rfl ?_; first | (refine uK (inR_t ?zq0) ?_; (case zq0 => assumption))) | refine uA ?_)) | refine uC ?_ | fail)
   all_goals first | (exfalso; omega) | (exact Fin.q Try.results43 (.cons (.tmp rfl) .nil) [])
theorem rstate_c (c : DConf) (hs : c.start.length ≤ 1152921504606846976) : Cd Try.prog 94 [aCf c] (i64 (stateC c)) [] := by
 have c1 := rchk_c c hs
 unfold stateC
 cases hk : chkC c
 ·rw [hk] at c1
  refine Cd.enter' Try.func94 rfl Try.ntmps94 rfl ?_
  repeat' (first | ((with_reducible refine kAL ?_); (first | (refine kL 1386 rfl ?_; first | refine uK (c1) ?_) | refine uA ?_)) | refine uC ?_ | fail)
  all_goals first | (exfalso; omega) | (exact Fin.q Try.results94 (.cons (.tmp rfl) .nil) [])
 ·rw [hk] at c1
  have S := chkC_shaped hk
  have b1 := S.t0
  have b2 := S.t1
  rw [if_pos rfl]
  by_cases k : c.kind = 3
  ·rw [if_pos k]
   have h3 := S.h3 k
   have hp := mulB (a := c.chans) (b := c.cap) (x := 8) (y := 8) (by omega) (by omega) (by omega) (by omega)
   have e : 1 + c.chans * (1 + c.cap) + c.threads * 4 = 1 + c.chans + c.chans * c.cap + 4 * c.threads := by rw [Int.mul_add]; omega
   rw [e]
   refine Cd.enter' Try.func94 rfl Try.ntmps94 rfl ?_
   repeat' (first | ((with_reducible refine kAL ?_); (first | (refine kL 1386 rfl ?_; first | refine uK (c1) ?_) | refine uA ?_)) | refine uC ?_ | fail)
   all_goals first | (exfalso; omega) | (exact Fin.q Try.results94 (.cons (.tmp rfl) .nil) [])
  ·rw [if_neg k]
   have h1 := S.h1 k
   rw [Int.add_comm 1]
   refine Cd.enter' Try.func94 rfl Try.ntmps94 rfl ?_
   repeat' (first | ((with_reducible refine kAL ?_); (first | (refine kL 1386 rfl ?_; first | refine uK (c1) ?_) | refine uA ?_)) | refine uC ?_ | fail)
   all_goals first | (exfalso; omega) | (exact Fin.q Try.results94 (.cons (.tmp rfl) .nil) [])
theorem rsize_c (c : DConf) (hs : c.start.length ≤ 1152921504606846976) : Cd Try.prog 71 [aCf c] (i64 (sizeC c)) [] := by
 have c1 := rchk_c c hs
 have c2 := rstate_c c hs
 unfold sizeC
 cases hk : chkC c
 ·rw [hk] at c1
  refine Cd.enter' Try.func71 rfl Try.ntmps71 rfl ?_
  repeat' (first | ((with_reducible refine kAL ?_); (first | (refine kL 1386 rfl ?_; first | refine uK (c1) ?_) | refine uA ?_)) | refine uC ?_ | fail)
  all_goals first | (exfalso; omega) | (exact Fin.q Try.results71 (.cons (.tmp rfl) .nil) [])
 ·rw [hk] at c1
  have b0 := stateC_b hk
  have S := chkC_shaped hk
  have b1 := S.t0
  have b2 := S.t1
  rw [if_pos rfl]
  refine Cd.enter' Try.func71 rfl Try.ntmps71 rfl ?_
  repeat' (first | ((with_reducible refine kAL ?_); (first | (refine kL 1386 rfl ?_; first | refine uK (c1) ?_) | refine uA ?_)) | ((with_reducible refine kRG ?_); (first | (refine kR 3018 rfl ?_; first | refine uQ (c2) 0 ?_) | refine uR ?_)) | refine uC ?_ | refine AW.drawU (id := 3) mixed 0 qR ?_ | fail)
  all_goals first | (exfalso; omega) | (exact Fin.q Try.results71 (.cons (.tmp rfl) .nil) [])
end
section
attribute [local irreducible] AL AW RG Fin C Cd Cio thenQ blockQ retQ
set_option maxRecDepth 100000
abbrev Wi (x : Int) : Int := IntKind.i64.wrap x
def argsL (c : DConf) (t : Int) : Int := Wi (Wi (3 + c.threads) + Wi (t * 5))
def hazL (c : DConf) (t : Int) : Int := Wi (Wi (3 + Wi (c.threads * 6)) + t)
def epL (c : DConf) (t : Int) : Int := Wi (Wi (3 + Wi (c.threads * 7)) + t)
def mailL (c : DConf) (t : Int) : Int := Wi (Wi (3 + Wi (c.threads * 8)) + t)
def nodeL (c : DConf) (i : Int) : Int := Wi (Wi (3 + Wi (c.threads * 9)) + Wi (i * (1 + sizeC c)))
def nodesL (c : DConf) : Int := if chkC c then 1 + c.threads * c.nodes else 0
def totL (c : DConf) : Int := if chkC c then 3 + c.threads * 9 + nodesL c * (1 + sizeC c) else 0
def chkL (c : DConf) : Int := if chkC c then (if totL c > 1048576 then 4 else 0) else 1
theorem sizeC_b (c : DConf) : 0 ≤ sizeC c ∧ sizeC c ≤ 393 := by
 unfold sizeC
 cases h : chkC c
 ·rw [if_neg (by decide)]; decide
 ·have := stateC_b h
  have S := chkC_shaped h
  have := S.t0
  have := S.t1
  rw [if_pos rfl]; omega
theorem nodesL_b {c : DConf} (h : chkC c = true) : 1 ≤ nodesL c ∧ nodesL c ≤ 4097 := by
 have h0 := h
 unfold chkC at h
 simp only [Bool.and_eq_true, inI_iff] at h
 obtain ⟨⟨⟨⟨⟨⟨a, b⟩, _⟩, _⟩, _⟩, _⟩, _⟩ := h
 have := mulB (a := c.threads) (b := c.nodes) (x := 64) (y := 64) (by omega) (by omega) (by omega) (by omega)
 unfold nodesL; rw [if_pos h0]; omega
theorem Wi_in {x : Int} (h : -9223372036854775808 ≤ x ∧ x ≤ 9223372036854775807) : Wi x = x := IntWalk.i64_in x h
theorem nodeL_in {c : DConf} (h : chkC c = true) {i : Int} (h0 : 0 ≤ i) (h1 : i ≤ 4097) : nodeL c i = 3 + c.threads * 9 + i * (1 + sizeC c) := by
 have S := chkC_shaped h
 have t0 := S.t0
 have t1 := S.t1
 have b := sizeC_b c
 have := mulB (a := i) (b := 1 + sizeC c) (x := 4097) (y := 394) h0 h1 (by omega) (by omega)
 unfold nodeL
 rw [Wi_in (x := c.threads * 9) (by omega), Wi_in (x := 3 + c.threads * 9) (by omega), Wi_in (x := i * (1 + sizeC c)) (by omega), Wi_in (by omega)]
theorem first4_c (c : DConf) : Cd Try.prog 69 [aCf c, i64 4] (i64 3) [] := by
 refine Cd.enter' Try.func69 rfl Try.ntmps69 rfl ?_
 repeat' (first | refine uA ?_ | refine uC ?_ | fail)
 all_goals first | (exfalso; omega) | (exact Fin.q Try.results69 (.cons (.tmp rfl) .nil) [])
theorem first5_c (c : DConf) : Cd Try.prog 69 [aCf c, i64 5] (i64 (Wi (3 + c.threads))) [] := by
 refine Cd.enter' Try.func69 rfl Try.ntmps69 rfl ?_
 repeat' (first | refine uA ?_ | refine uC ?_ | fail)
 all_goals first | (exfalso; omega) | (exact Fin.q Try.results69 (.cons (.tmp rfl) .nil) [])
theorem first6_c (c : DConf) : Cd Try.prog 69 [aCf c, i64 6] (i64 (Wi (3 + Wi (c.threads * 6)))) [] := by
 refine Cd.enter' Try.func69 rfl Try.ntmps69 rfl ?_
 repeat' (first | refine uA ?_ | refine uC ?_ | fail)
 all_goals first | (exfalso; omega) | (exact Fin.q Try.results69 (.cons (.tmp rfl) .nil) [])
theorem first7_c (c : DConf) : Cd Try.prog 69 [aCf c, i64 7] (i64 (Wi (3 + Wi (c.threads * 7)))) [] := by
 refine Cd.enter' Try.func69 rfl Try.ntmps69 rfl ?_
 repeat' (first | refine uA ?_ | refine uC ?_ | fail)
 all_goals first | (exfalso; omega) | (exact Fin.q Try.results69 (.cons (.tmp rfl) .nil) [])
theorem first8_c (c : DConf) : Cd Try.prog 69 [aCf c, i64 8] (i64 (Wi (3 + Wi (c.threads * 8)))) [] := by
 refine Cd.enter' Try.func69 rfl Try.ntmps69 rfl ?_
 repeat' (first | refine uA ?_ | refine uC ?_ | fail)
 all_goals first | (exfalso; omega) | (exact Fin.q Try.results69 (.cons (.tmp rfl) .nil) [])
theorem first9_c (c : DConf) : Cd Try.prog 69 [aCf c, i64 9] (i64 (Wi (3 + Wi (c.threads * 9)))) [] := by
 refine Cd.enter' Try.func69 rfl Try.ntmps69 rfl ?_
 repeat' (first | refine uA ?_ | refine uC ?_ | fail)
 all_goals first | (exfalso; omega) | (exact Fin.q Try.results69 (.cons (.tmp rfl) .nil) [])
theorem seqL_c (c : DConf) (t : Int) : Cd Try.prog 24 [aCf c, i64 t] (i64 (Wi (3 + t))) [] := by
 refine Cd.enter' Try.func24 rfl Try.ntmps24 rfl ?_
 repeat' (first | ((with_reducible refine kAL ?_); (first | (refine kL 2218 rfl ?_; first | refine uK (first4_c c) ?_) | refine uA ?_)) | refine uC ?_ | fail)
 all_goals first | (exfalso; omega) | (exact Fin.q Try.results24 (.cons (.tmp rfl) .nil) [])
theorem argsL_c (c : DConf) (t : Int) : Cd Try.prog 26 [aCf c, i64 t] (i64 (argsL c t)) [] := by
 refine Cd.enter' Try.func26 rfl Try.ntmps26 rfl ?_
 repeat' (first | ((with_reducible refine kAL ?_); (first | (refine kL 2218 rfl ?_; first | refine uK (first5_c c) ?_) | refine uA ?_)) | refine uC ?_ | fail)
 all_goals first | (exfalso; omega) | (exact Fin.q Try.results26 (.cons (.tmp rfl) .nil) [])
theorem hazL_c (c : DConf) (t : Int) : Cd Try.prog 28 [aCf c, i64 t] (i64 (hazL c t)) [] := by
 refine Cd.enter' Try.func28 rfl Try.ntmps28 rfl ?_
 repeat' (first | ((with_reducible refine kAL ?_); (first | (refine kL 2218 rfl ?_; first | refine uK (first6_c c) ?_) | refine uA ?_)) | refine uC ?_ | fail)
 all_goals first | (exfalso; omega) | (exact Fin.q Try.results28 (.cons (.tmp rfl) .nil) [])
theorem epL_c (c : DConf) (t : Int) : Cd Try.prog 30 [aCf c, i64 t] (i64 (epL c t)) [] := by
 refine Cd.enter' Try.func30 rfl Try.ntmps30 rfl ?_
 repeat' (first | ((with_reducible refine kAL ?_); (first | (refine kL 2218 rfl ?_; first | refine uK (first7_c c) ?_) | refine uA ?_)) | refine uC ?_ | fail)
 all_goals first | (exfalso; omega) | (exact Fin.q Try.results30 (.cons (.tmp rfl) .nil) [])
theorem mailL_c (c : DConf) (t : Int) : Cd Try.prog 32 [aCf c, i64 t] (i64 (mailL c t)) [] := by
 refine Cd.enter' Try.func32 rfl Try.ntmps32 rfl ?_
 repeat' (first | ((with_reducible refine kAL ?_); (first | (refine kL 2218 rfl ?_; first | refine uK (first8_c c) ?_) | refine uA ?_)) | refine uC ?_ | fail)
 all_goals first | (exfalso; omega) | (exact Fin.q Try.results32 (.cons (.tmp rfl) .nil) [])
theorem rseqL_c (c : DConf) (t : Int) : Cd Try.prog 25 [aCf c, i64 t] (i64 (Wi (3 + t))) [] := by
 refine Cd.enter' Try.func25 rfl Try.ntmps25 rfl ?_
 repeat' (first | refine uA ?_ | refine uC ?_ | fail)
 all_goals first | (exfalso; omega) | (exact Fin.q Try.results25 (.cons (.tmp rfl) .nil) [])
theorem rargsL_c (c : DConf) (t : Int) : Cd Try.prog 27 [aCf c, i64 t] (i64 (argsL c t)) [] := by
 unfold argsL
 rw [Int.mul_comm t 5]
 refine Cd.enter' Try.func27 rfl Try.ntmps27 rfl ?_
 repeat' (first | refine uA ?_ | refine uC ?_ | fail)
 all_goals first | (exfalso; omega) | (exact Fin.q Try.results27 (.cons (.tmp rfl) .nil) [])
theorem rhazL_c (c : DConf) (t : Int) : Cd Try.prog 29 [aCf c, i64 t] (i64 (hazL c t)) [] := by
 unfold hazL
 rw [Int.mul_comm c.threads 6]
 refine Cd.enter' Try.func29 rfl Try.ntmps29 rfl ?_
 repeat' (first | refine uA ?_ | refine uC ?_ | fail)
 all_goals first | (exfalso; omega) | (exact Fin.q Try.results29 (.cons (.tmp rfl) .nil) [])
theorem repL_c (c : DConf) (t : Int) : Cd Try.prog 31 [aCf c, i64 t] (i64 (epL c t)) [] := by
 unfold epL
 rw [Int.mul_comm c.threads 7]
 refine Cd.enter' Try.func31 rfl Try.ntmps31 rfl ?_
 repeat' (first | refine uA ?_ | refine uC ?_ | fail)
 all_goals first | (exfalso; omega) | (exact Fin.q Try.results31 (.cons (.tmp rfl) .nil) [])
theorem rmailL_c (c : DConf) (t : Int) : Cd Try.prog 33 [aCf c, i64 t] (i64 (mailL c t)) [] := by
 unfold mailL
 rw [Int.mul_comm c.threads 8]
 refine Cd.enter' Try.func33 rfl Try.ntmps33 rfl ?_
 repeat' (first | refine uA ?_ | refine uC ?_ | fail)
 all_goals first | (exfalso; omega) | (exact Fin.q Try.results33 (.cons (.tmp rfl) .nil) [])
theorem nodeL_c (c : DConf) (hs : c.start.length ≤ 1152921504606846976) (i : Int) : Cd Try.prog 36 [aCf c, i64 i] (i64 (nodeL c i)) [] := by
 have c2 := size_c c hs
 have b := sizeC_b c
 unfold nodeL
 generalize sizeC c = z at *
 refine Cd.enter' Try.func36 rfl Try.ntmps36 rfl ?_
 repeat' (first | refine uA ?_ | ((with_reducible refine kRG ?_); (first | (refine kR 2218 rfl ?_; first | refine uQ (first9_c c) 0 ?_) | (refine kR 2250 rfl ?_; first | refine uQ (c2) 0 ?_) | refine uR ?_)) | refine uC ?_ | refine AW.drawU (id := 1) mixed 0 qR ?_ | fail)
 all_goals first | (exfalso; omega) | (exact Fin.q Try.results36 (.cons (.tmp rfl) .nil) [])
theorem rnodeL_c (c : DConf) (hs : c.start.length ≤ 1152921504606846976) (i : Int) : Cd Try.prog 37 [aCf c, i64 i] (i64 (nodeL c i)) [] := by
 have c2 := rsize_c c hs
 have b := sizeC_b c
 unfold nodeL
 rw [Int.mul_comm c.threads 9]
 generalize sizeC c = z at *
 refine Cd.enter' Try.func37 rfl Try.ntmps37 rfl ?_
 repeat' (first | refine uA ?_ | ((with_reducible refine kRG ?_); (first | (refine kR 2282 rfl ?_; first | refine uQ (c2) 0 ?_) | refine uR ?_)) | refine uC ?_ | refine AW.drawU (id := 1) mixed 0 qR ?_ | fail)
 all_goals first | (exfalso; omega) | (exact Fin.q Try.results37 (.cons (.tmp rfl) .nil) [])
theorem nodesL_c (c : DConf) (hs : c.start.length ≤ 1152921504606846976) : Cd Try.prog 34 [aCf c] (i64 (nodesL c)) [] := by
 have c1 := check_c c hs
 have b : chkC c = true → nodesL c = 1 + c.threads * c.nodes ∧ 1 ≤ nodesL c ∧ nodesL c ≤ 4097 := fun h => ⟨by unfold nodesL; rw [if_pos h], nodesL_b h⟩
 cases hk : chkC c
 ·rw [hk] at c1
  rw [show nodesL c = 0 by unfold nodesL; rw [hk]; rfl]
  refine Cd.enter' Try.func34 rfl Try.ntmps34 rfl ?_
  repeat' (first | ((with_reducible refine kAL ?_); (first | (refine kL 2314 rfl ?_; first | refine uK (c1) ?_) | refine uA ?_)) | refine uC ?_ | fail)
  all_goals first | (exfalso; omega) | (exact Fin.q Try.results34 (.cons (.tmp rfl) .nil) [])
 ·rw [hk] at c1
  obtain ⟨e, b1, b2⟩ := b hk
  rw [e] at b1 b2 ⊢
  refine Cd.enter' Try.func34 rfl Try.ntmps34 rfl ?_
  repeat' (first | ((with_reducible refine kAL ?_); (first | (refine kL 2314 rfl ?_; first | refine uK (c1) ?_) | refine uA ?_)) | refine uC ?_ | fail)
  all_goals first | (exfalso; omega) | (exact Fin.q Try.results34 (.cons (.tmp rfl) .nil) [])
theorem rnodesL_c (c : DConf) (hs : c.start.length ≤ 1152921504606846976) : Cd Try.prog 35 [aCf c] (i64 (nodesL c)) [] := by
 have c1 := rchk_c c hs
 have b : chkC c = true → nodesL c = c.threads * c.nodes + 1 ∧ 1 ≤ nodesL c ∧ nodesL c ≤ 4097 := fun h => ⟨by unfold nodesL; rw [if_pos h, Int.add_comm], nodesL_b h⟩
 cases hk : chkC c
 ·rw [hk] at c1
  rw [show nodesL c = 0 by unfold nodesL; rw [hk]; rfl]
  refine Cd.enter' Try.func35 rfl Try.ntmps35 rfl ?_
  repeat' (first | ((with_reducible refine kAL ?_); (first | (refine kL 1386 rfl ?_; first | refine uK (c1) ?_) | refine uA ?_)) | refine uC ?_ | fail)
  all_goals first | (exfalso; omega) | (exact Fin.q Try.results35 (.cons (.tmp rfl) .nil) [])
 ·rw [hk] at c1
  obtain ⟨e, b1, b2⟩ := b hk
  rw [e] at b1 b2 ⊢
  refine Cd.enter' Try.func35 rfl Try.ntmps35 rfl ?_
  repeat' (first | ((with_reducible refine kAL ?_); (first | (refine kL 1386 rfl ?_; first | refine uK (c1) ?_) | refine uA ?_)) | refine uC ?_ | fail)
  all_goals first | (exfalso; omega) | (exact Fin.q Try.results35 (.cons (.tmp rfl) .nil) [])
theorem totL_b {c : DConf} (h : chkC c = true) : totL c = nodeL c (nodesL c) ∧ totL c = 3 + c.threads * 9 + nodesL c * (1 + sizeC c) ∧ 0 ≤ nodesL c * (1 + sizeC c) ∧ nodesL c * (1 + sizeC c) ≤ 1614218 := by
 have b := nodesL_b h
 have z := sizeC_b c
 have := mulB (a := nodesL c) (b := 1 + sizeC c) (x := 4097) (y := 394) (by omega) (by omega) (by omega) (by omega)
 have e : totL c = 3 + c.threads * 9 + nodesL c * (1 + sizeC c) := by unfold totL; rw [if_pos h]
 exact ⟨by rw [nodeL_in h (by omega) (by omega), e], e, by omega, by omega⟩
theorem totL_c (c : DConf) (hs : c.start.length ≤ 1152921504606846976) : Cd Try.prog 38 [aCf c] (i64 (totL c)) [] := by
 have c1 := check_c c hs
 have c2 := nodesL_c c hs
 have c3 := nodeL_c c hs (nodesL c)
 cases hk : chkC c
 ·rw [hk] at c1
  rw [show totL c = 0 by unfold totL; rw [hk]; rfl]
  refine Cd.enter' Try.func38 rfl Try.ntmps38 rfl ?_
  repeat' (first | ((with_reducible refine kAL ?_); (first | (refine kL 2314 rfl ?_; first | refine uK (c1) ?_) | refine uA ?_)) | refine uC ?_ | fail)
  all_goals first | (exfalso; omega) | (exact Fin.q Try.results38 (.cons (.tmp rfl) .nil) [])
 ·rw [hk] at c1
  rw [(totL_b hk).1]
  refine Cd.enter' Try.func38 rfl Try.ntmps38 rfl ?_
  repeat' (first | ((with_reducible refine kAL ?_); (first | (refine kL 2314 rfl ?_; first | refine uK (c1) ?_) | refine uA ?_)) | ((with_reducible refine kRG ?_); (first | (refine kR 1098 rfl ?_; first | refine uQ (c2) 0 ?_) | (refine kR 1162 rfl ?_; first | refine uQ (c3) 0 ?_) | refine uR ?_)) | refine uC ?_ | refine AW.drawU (id := 3) mixed 0 qR ?_ | fail)
  all_goals first | (exfalso; omega) | (exact Fin.q Try.results38 (.cons (.tmp rfl) .nil) [])
theorem rtotL_c (c : DConf) (hs : c.start.length ≤ 1152921504606846976) : Cd Try.prog 39 [aCf c] (i64 (totL c)) [] := by
 have c1 := rchk_c c hs
 have c2 := rnodesL_c c hs
 have c3 := rsize_c c hs
 cases hk : chkC c
 ·rw [hk] at c1
  rw [show totL c = 0 by unfold totL; rw [hk]; rfl]
  refine Cd.enter' Try.func39 rfl Try.ntmps39 rfl ?_
  repeat' (first | ((with_reducible refine kAL ?_); (first | (refine kL 1386 rfl ?_; first | refine uK (c1) ?_) | refine uA ?_)) | refine uC ?_ | fail)
  all_goals first | (exfalso; omega) | (exact Fin.q Try.results39 (.cons (.tmp rfl) .nil) [])
 ·rw [hk] at c1
  obtain ⟨_, e, b1, b2⟩ := totL_b hk
  have S := chkC_shaped hk
  have t0 := S.t0
  have t1 := S.t1
  have z := sizeC_b c
  have y := nodesL_b hk
  rw [e, Int.mul_comm c.threads 9]
  generalize sizeC c = zz at *
  generalize nodesL c = yy at *
  refine Cd.enter' Try.func39 rfl Try.ntmps39 rfl ?_
  repeat' (first | ((with_reducible refine kAL ?_); (first | (refine kL 1386 rfl ?_; first | refine uK (c1) ?_) | refine uA ?_)) | ((with_reducible refine kRG ?_); (first | (refine kR 1130 rfl ?_; first | refine uQ (c2) 0 ?_) | (refine kR 2282 rfl ?_; first | refine uQ (c3) 0 ?_) | refine uR ?_)) | refine uC ?_ | refine AW.drawU (id := 3) mixed 0 qR ?_ | fail)
  all_goals first | (exfalso; omega) | (exact Fin.q Try.results39 (.cons (.tmp rfl) .nil) [])
theorem chkL_c (c : DConf) (hs : c.start.length ≤ 1152921504606846976) : Cd Try.prog 40 [aCf c] (i64 (chkL c)) [] := by
 have c1 := check_c c hs
 have c2 := totL_c c hs
 unfold chkL
 generalize totL c = tt at *
 cases hk : chkC c
 ·rw [hk] at c1
  refine Cd.enter' Try.func40 rfl Try.ntmps40 rfl ?_
  repeat' (first | ((with_reducible refine kAL ?_); (first | (refine kL 2314 rfl ?_; first | refine uK (c1) ?_) | refine uA ?_)) | refine uC ?_ | fail)
  all_goals first | (exfalso; omega) | (exact Fin.q Try.results40 (.cons (.tmp rfl) .nil) [])
 ·rw [hk] at c1
  rw [if_pos rfl]
  by_cases h : tt > 1048576
  ·rw [if_pos h]
   refine Cd.enter' Try.func40 rfl Try.ntmps40 rfl ?_
   repeat' (first | ((with_reducible refine kAL ?_); (first | (refine kL 2314 rfl ?_; first | refine uK (c1) ?_) | (refine kL 1226 rfl ?_; first | refine uK (c2) ?_) | refine uA ?_)) | refine uC ?_ | fail)
   all_goals first | (exfalso; omega) | (exact Fin.q Try.results40 (.cons (.tmp rfl) .nil) [])
  ·rw [if_neg h]
   refine Cd.enter' Try.func40 rfl Try.ntmps40 rfl ?_
   repeat' (first | ((with_reducible refine kAL ?_); (first | (refine kL 2314 rfl ?_; first | refine uK (c1) ?_) | (refine kL 1226 rfl ?_; first | refine uK (c2) ?_) | refine uA ?_)) | refine uC ?_ | fail)
   all_goals first | (exfalso; omega) | (exact Fin.q Try.results40 (.cons (.tmp rfl) .nil) [])
theorem rchkL_c (c : DConf) (hs : c.start.length ≤ 1152921504606846976) : Cd Try.prog 41 [aCf c] (i64 (chkL c)) [] := by
 have c1 := rchk_c c hs
 have c2 := rtotL_c c hs
 unfold chkL
 generalize totL c = tt at *
 cases hk : chkC c
 ·rw [hk] at c1
  refine Cd.enter' Try.func41 rfl Try.ntmps41 rfl ?_
  repeat' (first | ((with_reducible refine kAL ?_); (first | (refine kL 1386 rfl ?_; first | refine uK (c1) ?_) | refine uA ?_)) | refine uC ?_ | fail)
  all_goals first | (exfalso; omega) | (exact Fin.q Try.results41 (.cons (.tmp rfl) .nil) [])
 ·rw [hk] at c1
  rw [if_pos rfl]
  by_cases h : tt > 1048576
  ·rw [if_pos h]
   refine Cd.enter' Try.func41 rfl Try.ntmps41 rfl ?_
   repeat' (first | ((with_reducible refine kAL ?_); (first | (refine kL 1386 rfl ?_; first | refine uK (c1) ?_) | (refine kL 1258 rfl ?_; first | refine uK (c2) ?_) | refine uA ?_)) | refine uC ?_ | fail)
   all_goals first | (exfalso; omega) | (exact Fin.q Try.results41 (.cons (.tmp rfl) .nil) [])
  ·rw [if_neg h]
   refine Cd.enter' Try.func41 rfl Try.ntmps41 rfl ?_
   repeat' (first | ((with_reducible refine kAL ?_); (first | (refine kL 1386 rfl ?_; first | refine uK (c1) ?_) | (refine kL 1258 rfl ?_; first | refine uK (c2) ?_) | refine uA ?_)) | refine uC ?_ | fail)
   all_goals first | (exfalso; omega) | (exact Fin.q Try.results41 (.cons (.tmp rfl) .nil) [])
end
section
attribute [local irreducible] AL AW RG Fin C Cd Cio thenQ blockQ retQ
set_option maxRecDepth 100000
abbrev fU (l : List Int) : AV := .t (.lst (l.map tU))
def okU (l : List Int) : Prop := ∀ w ∈ l, 0 ≤ w ∧ w ≤ 18446744073709551615
end
section
attribute [local irreducible] AL AW RG Fin C Cd Cio thenQ blockQ retQ
set_option maxRecDepth 100000
theorem cloneU_c (l : List Int) (h : l.length ≤ 17592186044415) : Cd Try.prog 82 [.ln (l.map tU)] (fU l) [] := by
 have h0 : Cd Try.prog 82 [.ln (l.map tU)] (.sl 0 0 l.length) [.row 0 69 1 (l.map tU)] := by
  refine Cd.enter' Try.func82 rfl Try.ntmps82 rfl ?_
  repeat' (first | ((with_reducible refine kAL ?_); (first | (refine kL 809 rfl ?_; first | refine A_eqnil rfl rfl 25 _ _ rfl ud25 rfl (fun b hb => ?_)) | (refine kL 12 rfl ?_; first | refine A_append_nlsub rfl rfl _ _ 25 rfl ud25 inf69 rfl rfl rfl rfl (by (try simp only [List.length_map, List.length_append, List.length_cons, List.length_nil]); omega) qB qB List.map_drop.symm (.push qL qN) ?_) | refine uA ?_)) | refine uC ?_ | refine kcp rfl (fun hc => ?_) (fun hc => ?_) | refine kcn rfl (fun hc => ?_) (fun hc => ?_) | refine kcb rfl (fun hc => ?_) (fun hc => ?_) | refine kcc rfl (fun hc => ?_) (fun hc => ?_) | fail)
  ·have hl : l = [] := by simpa using hb hc
   subst hl
   refine Fin.wk (Wk.own 2 rfl 69 1 (.push rfl rfl)) ?_
   (first | exact Fin.q Try.results82 (.cons (.tmp rfl) .nil) [0] | refine Fin.q Try.results82 (.cons (.tmp rfl) .nil) [0] (hr := (.t ?_)) | refine Fin.mkv (rs := _) Try.results82 (.cons (.tmp rfl) .nil) [0] (by decide) rfl ?_ ?_ ?_ <;> repeat' (skip; first | exact .nil | refine .cons rfl ?_ ?_ | refine .cons ?_ ?_ | refine .row ?_ | refine .rset ?_ | refine .box ?_ | exact .gone | refine .aggL ?_ | refine .tupL ?_ | refine .old rfl ?_ | refine .new rfl rfl rfl ?_ | exact .nl | exact .optr rfl | exact .nptr rfl rfl rfl | refine .t ?_ | exact .any _ | rfl))
  ·(first | exact Fin.q Try.results82 (.cons (.tmp rfl) .nil) [0] | refine Fin.q Try.results82 (.cons (.tmp rfl) .nil) [0] (hr := (.t ?_)) | refine Fin.mkv (rs := _) Try.results82 (.cons (.tmp rfl) .nil) [0] (by decide) rfl ?_ ?_ ?_ <;> repeat' (skip; first | exact .nil | refine .cons rfl ?_ ?_ | refine .cons ?_ ?_ | refine .row ?_ | refine .rset ?_ | refine .box ?_ | exact .gone | refine .aggL ?_ | refine .tupL ?_ | refine .old rfl ?_ | refine .new rfl rfl rfl ?_ | exact .nl | exact .optr rfl | exact .nptr rfl rfl rfl | refine .t ?_ | exact .any _ | rfl))
 have h0' := Cd.frz1 h0 0 rfl (by repeat' (first | exact FzL.nil | apply FzL.cons | exact FzR.nlt | exact FzR.all (by first | rfl | (simp <;> fail) | (simp; omega)) | exact FzR.sl (by first | exact Nat.le_refl _ | (simp <;> fail) | (simp; omega)) | apply FzR.aggL | exact FzR.same _)) rfl; exact Cd.drop h0' rfl
end
section
def pokeL (l : List Int) (a : Nat) (ws : List Int) : List Int := l.take a ++ ws ++ l.drop (a + ws.length)
theorem pokeL_len {l ws : List Int} {a : Nat} (h : a + ws.length ≤ l.length) : (pokeL l a ws).length = l.length := by
 unfold pokeL; simp only [List.length_append, List.length_take, List.length_drop]; omega
theorem pokeL_get {l ws : List Int} {a : Nat} (h : a + ws.length ≤ l.length) (i : Nat) : (pokeL l a ws)[i]? = if i < a then l[i]? else if i < a + ws.length then ws[i - a]? else l[i]? := by
 unfold pokeL
 have e1 : (l.take a).length = a := by rw [List.length_take]; omega
 by_cases h1 : i < a
 ·rw [if_pos h1, List.append_assoc, List.getElem?_append_left (by omega), List.getElem?_take, if_pos h1]
 ·rw [if_neg h1]
  by_cases h2 : i < a + ws.length
  ·rw [if_pos h2, List.append_assoc, List.getElem?_append_right (by omega), e1, List.getElem?_append_left (by omega)]
  ·rw [if_neg h2, List.getElem?_append_right (by simp only [List.length_append, e1]; omega), List.length_append, e1, List.getElem?_drop]
   congr 1; omega
theorem pokeL_one (l : List Int) {a : Nat} (w : Int) (h : a < l.length) : pokeL l a [w] = l.set a w := by
 apply List.ext_getElem?
 intro i
 rw [pokeL_get (by simp; omega), List.getElem?_set]
 by_cases h1 : i < a
 ·rw [if_pos h1, if_neg (by omega)]
 ·rw [if_neg h1]
  by_cases h2 : i = a
  ·subst h2; simp [h]
  ·rw [if_neg (by simp; omega), if_neg (by omega)]
theorem pokeL_nil (l : List Int) (a : Nat) : pokeL l a [] = l := by unfold pokeL; simp
theorem pokeL_step {l ws : List Int} {a i : Nat} {w : Int} (h : a + ws.length ≤ l.length) (hw : ws[i]? = some w) : pokeL l a (ws.take (i + 1)) = (pokeL l a (ws.take i)).set (a + i) w := by
 have hi := (List.getElem?_eq_some_iff.1 hw).1
 have e1 : (ws.take (i + 1)).length = i + 1 := by rw [List.length_take]; omega
 have e2 : (ws.take i).length = i := by rw [List.length_take]; omega
 have hl : (pokeL l a (ws.take i)).length = l.length := pokeL_len (by omega)
 apply List.ext_getElem?
 intro j
 rw [pokeL_get (by omega), List.getElem?_set, pokeL_get (by omega), e1, e2, hl]
 by_cases h1 : j < a
 ·rw [if_pos h1, if_neg (by omega), if_pos h1]
 ·rw [if_neg h1, if_neg h1]
  by_cases h2 : j = a + i
  ·subst h2
   rw [if_pos (by omega), if_pos rfl, if_pos (by omega), List.getElem?_take, if_pos (by omega)]
   rw [Nat.add_sub_cancel_left, hw]
  ·rw [if_neg (show ¬ a + i = j by omega)]
   by_cases h3 : j < a + i
   ·rw [if_pos (by omega), if_pos h3, List.getElem?_take, if_pos (by omega), List.getElem?_take, if_pos (by omega)]
   ·rw [if_neg (by omega), if_neg h3]
end
end Go.Proofs.Ytnfbggpkiekpdaa
