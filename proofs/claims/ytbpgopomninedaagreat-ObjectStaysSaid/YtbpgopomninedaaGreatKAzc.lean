/- Joined: XTSortOW, XTObjO, XTObjOR, XTFrzA, XTLaw14, XTSmall. -/
import Derived.Test.YtbpgopomninedaaGreatKAg
import Derived.Test.YtbpgopomninedaaGreatKAzb
import Derived.Test.YtbpgopomninedaaGreatKAd
import Derived.Test.YtbpgopomninedaaGreatKAc
import Derived.Test.YtbpgopomninedaaGreatKAza
import Derived.Test.YtbpgopomninedaaGreatKAe
namespace Go.Proofs.YtbpgopomninedaaGreat
open Go.RowKit
set_option linter.unusedVariables false
set_option linter.unusedSimpArgs false
set_option linter.unnecessarySimpa false
set_option maxRecDepth 100000
set_option maxHeartbeats 64000000
section
attribute [local irreducible] AL AW RG Fin C Cd Cio thenQ blockQ retQ
set_option maxRecDepth 100000
theorem stable_c_o (f : FuncId) (fi cap : List AV) (key : DOp → Int) (l : List DOp) (k : Nat) (hl : l.length ≤ 1152921504606846976) (hg : CmpV_o (.fn (.func f) fi cap) key l)
  (hup : upB (keepG 1) (.fn (.func f) fi cap) = .fn (.func f) fi cap) (hps : ∀ heap sel, Pass heap sel (.fn (.func f) fi cap) (.fn (.func f) fi cap)) :
  Cio Tryz.prog 85 [.sl 0 k l.length, i64 l.length, .fn (.func f) fi cap] [.row k 38 8 (l.map tOp)] (.tup []) [.row k 38 8 ((isort key l).map tOp)] := by
 refine Cio.enter' Tryz.func85 rfl Tryz.ntmps85 rfl qM ?_
 repeat' (first | refine uA ?_ | refine uC ?_ | fail)
 refine AW.loopP (fun (x : Nat × List DOp) => 20 ∣ x.1 ∧ x.1 ≤ l.length ∧ (∀ c, 20 ∣ c → c < x.1 → srtd key (seg x.2 c (c + 20))) ∧ SE key l x.2 ∧ x.2.length = l.length) (fun (x : Nat × List DOp) => (pu (pu (pu (pu (pu (pu (fun _ => .any) 0 (.sl 0 k l.length)) 1 (i64 l.length)) 2 (.fn (.func f) fi cap)) 6 (i64 20)) 7 (i64 x.1)) 8 (i64 ((x.1 + 20 : Nat) : Int)))) (fun (x : Nat × List DOp) => [.row k 38 8 (x.2.map tOp)]) (fun (x : Nat × List DOp) => l.length - x.1) ((0, l)) ?_ ?_ ?_
 ·exact ⟨Nat.dvd_zero _, Nat.zero_le _, fun c _ h => by dsimp only at h; omega, SE.refl _, rfl⟩
 ·exact Wk.cq 1
 ·rintro ⟨a, M⟩ ⟨h2, h3, h4, h5, h6⟩
  dsimp only at h2 h3 h4 h5 h6 ⊢
  have hgM := hg.mono fun x hx => h5.mem.1 hx
  by_cases hb : a + 20 ≤ l.length
  ·have c1 := insert_c_o f fi cap key M k a (a + 20) (by omega) (by omega) (by omega) hgM hup
   rw [h6] at c1
   repeat' (first | ((with_reducible refine kAL ?_); (first | refine uI [0] (c1) ?_ | refine uA ?_)) | refine uC ?_ | fail)
   all_goals first | (exfalso; omega) | skip
   refine ⟨(a + 20, srt key M a (a + 20)), ⟨Nat.dvd_add h2 (Nat.dvd_refl _), hb, blk_next h2 h4 (by omega), h5.trans (srt_se (by omega)), by dsimp only; rw [srt_len (by omega) (by omega), h6]⟩, by dsimp only; omega, ?_⟩
   exact Wk.cq 1
  ·have c1 := insert_c_o f fi cap key M k a l.length (by omega) (by omega) (by omega) hgM hup
   have f1 := blk_last h2 h4 (by omega) (by omega)
   have f2 := h5.trans (srt_se (key := key) (l := M) (a := a) (b := l.length) (by omega))
   have f3 := srt_len (key := key) (l := M) (a := a) (b := l.length) (by omega) (by omega)
   rw [h6] at c1 f1 f3
   clear h4 h5 hgM
   generalize srt key M a l.length = M1 at *
   repeat' (first | ((with_reducible refine kAL ?_); (first | refine uI [0] (c1) ?_ | refine uA ?_)) | refine uC ?_ | fail)
   all_goals first | (exfalso; omega) | skip
   refine AW.loopP (fun (y : Nat × List DOp) => 0 < y.1 ∧ y.1 ≤ 2 * l.length + 20 ∧ (∀ c, y.1 ∣ c → srtd key (seg y.2 c (c + y.1))) ∧ SE key l y.2 ∧ y.2.length = l.length) (fun (y : Nat × List DOp) => (pu (pu (pu (pu (fun _ => .any) 0 (.sl 0 k l.length)) 1 (i64 l.length)) 2 (.fn (.func f) fi cap)) 6 (i64 y.1))) (fun (y : Nat × List DOp) => [.row k 38 8 (y.2.map tOp)]) (fun (y : Nat × List DOp) => l.length + 1 - y.1) ((20, M1)) ?_ ?_ ?_
   ·exact ⟨by dsimp only; omega, by dsimp only; omega, f1, f2, f3⟩
   ·exact Wk.cq 1
   ·rintro ⟨d, M2⟩ ⟨g1, g2, g3, g4, g5⟩
    dsimp only at g1 g2 g3 g4 g5 ⊢
    by_cases hd : d < l.length
    ·repeat' (first | refine uA ?_ | refine uC ?_ | fail)
     all_goals first | (exfalso; omega) | skip
     refine AW.loopP (fun (z : Nat × Nat × List DOp) => 2 * d ∣ z.1 ∧ z.1 ≤ l.length ∧ z.2.1 = z.1 + 2 * d ∧ (∀ c, 2 * d ∣ c → c < z.1 → srtd key (seg z.2.2 c (c + 2 * d))) ∧ (∀ c, d ∣ c → z.1 ≤ c → srtd key (seg z.2.2 c (c + d))) ∧ SE key l z.2.2 ∧ z.2.2.length = l.length) (fun (z : Nat × Nat × List DOp) => (pu (pu (pu (pu (pu (pu (fun _ => .any) 0 (.sl 0 k l.length)) 1 (i64 l.length)) 2 (.fn (.func f) fi cap)) 6 (i64 d)) 7 (i64 z.1)) 8 (i64 z.2.1))) (fun (z : Nat × Nat × List DOp) => [.row k 38 8 (z.2.2.map tOp)]) (fun (z : Nat × Nat × List DOp) => l.length - z.1) ((0, 2 * d, M2)) ?_ ?_ ?_
     ·exact ⟨Nat.dvd_zero _, Nat.zero_le _, by dsimp only; omega, fun c _ h => by dsimp only at h; omega, fun c hc _ => g3 c hc, g4, g5⟩
     ·exact Wk.cq 1
     ·rintro ⟨a, b, M3⟩ ⟨k1, k2, k3, k4, k5, k6, k7⟩
      dsimp only at k1 k2 k3 k4 k5 k6 k7 ⊢
      have hgM := hg.mono fun x hx => k6.mem.1 hx
      have kd : d ∣ a := Nat.dvd_trans (Nat.dvd_mul_left _ _) k1
      have kd2 : d ∣ a + d := Nat.dvd_add kd (Nat.dvd_refl _)
      have t1 := k5 a kd (Nat.le_refl _)
      have t2 := k5 (a + d) kd2 (by omega)
      by_cases hb : b ≤ l.length
      ·have cM := symMerge_c_o f fi cap key hup hps k _ M3 a (a + d) b rfl (by omega) (by omega) (by omega) (by omega) hgM t1 (by rwa [show a + d + d = b by omega] at t2)
       rw [k7] at cM
       have u1 : ∀ c, 2 * d ∣ c → c < b → srtd key (seg (srt key M3 a b) c (c + 2 * d)) := by have := blk_next k1 k4 (by omega); rwa [← k3] at this
       have u2 := blk_others (b := b) k5 (by omega) (by omega)
       have u3 := k6.trans (srt_se (key := key) (l := M3) (a := a) (b := b) (by omega))
       have u4 := srt_len (key := key) (l := M3) (a := a) (b := b) (by omega) (by omega)
       rw [k7] at u4
       generalize srt key M3 a b = M4 at *
       repeat' (first | ((with_reducible refine kAL ?_); (first | refine uI [0] (cM) ?_ | refine uA ?_)) | refine uC ?_ | fail)
       all_goals first | (exfalso; omega) | skip
       refine ⟨(b, b + 2 * d, M4), ⟨by dsimp only; rw [k3]; exact Nat.dvd_add k1 (Nat.dvd_refl _), hb, rfl, u1, u2, u3, u4⟩, by dsimp only; omega, ?_⟩
       exact Wk.cq 1
      ·by_cases hm : a + d < l.length
       ·have cM := symMerge_c_o f fi cap key hup hps k _ M3 a (a + d) l.length rfl (by omega) (by omega) (by omega) (by omega) hgM t1 (by rwa [seg_past (c := l.length) (by omega) (by omega)] at t2)
        rw [k7] at cM
        have u1 : ∀ c, 2 * d ∣ c → srtd key (seg (srt key M3 a l.length) c (c + 2 * d)) := by have := blk_last k1 k4 (by omega) (by omega); rwa [k7] at this
        have u3 := k6.trans (srt_se (key := key) (l := M3) (a := a) (b := l.length) (by omega))
        have u4 := srt_len (key := key) (l := M3) (a := a) (b := l.length) (by omega) (by omega)
        rw [k7] at u4
        rw [Nat.mul_comm] at u1
        generalize srt key M3 a l.length = M4 at *
        repeat' (first | ((with_reducible refine kAL ?_); (first | refine uI [0] (cM) ?_ | refine uA ?_)) | refine uC ?_ | fail)
        all_goals first | (exfalso; omega) | skip
        refine ⟨(d * 2, M4), ⟨by dsimp only; omega, by dsimp only; omega, u1, u3, u4⟩, by dsimp only; omega, ?_⟩
        exact Wk.cq 1
       ·have u1 : ∀ c, 2 * d ∣ c → srtd key (seg M3 c (c + 2 * d)) := blk_rest k1 k4 k5 (by omega)
        rw [Nat.mul_comm] at u1
        repeat' (first | refine uA ?_ | refine uC ?_ | fail)
        all_goals first | (exfalso; omega) | skip
        refine ⟨(d * 2, M3), ⟨by dsimp only; omega, by dsimp only; omega, u1, k6, k7⟩, by dsimp only; omega, ?_⟩
        exact Wk.cq 1
    ·rw [blk_all g3 g4 (by omega)]
     repeat' (first | refine uA ?_ | refine uC ?_ | fail)
     all_goals first | (exfalso; omega) | (exact Fin.q Tryz.results85 .nil [])
theorem sortStable_c_o (f : FuncId) (fi cap : List AV) (key : DOp → Int) (l : List DOp) (k : Nat) (hl : l.length ≤ 1152921504606846976) (hg : CmpV_o (.fn (.func f) fi cap) key l)
  (hup : upB (keepG 1) (.fn (.func f) fi cap) = .fn (.func f) fi cap) (hps : ∀ heap sel, Pass heap sel (.fn (.func f) fi cap) (.fn (.func f) fi cap)) :
  Cio Tryz.prog 46 [.sl 0 k l.length, .fn (.func f) fi cap] [.row k 38 8 (l.map tOp)] (.tup []) [.row k 38 8 ((isort key l).map tOp)] := by
 have hlt : (l.map tOp).length = l.length := List.length_map _
 have c1 := stable_c_o f fi cap key l k hl hg hup hps
 refine Cio.enter' Tryz.func46 rfl Tryz.ntmps46 rfl qM ?_
 repeat' (first | ((with_reducible refine kAL ?_); (first | refine uI [0] (c1) ?_ | refine uA ?_)) | refine uC ?_ | (with_reducible (refine wka ?_)) | fail)
 all_goals (exact Fin.q Tryz.results46 .nil [])
end
section
attribute [local irreducible] AL AW RG Fin C Cd Cio thenQ blockQ retQ
set_option maxRecDepth 100000
def keyO (x : DOp) : Int := x.phase * 18446744073709551616 + x.thread
def cmpO (a b : DOp) : Int := if a.phase ≠ b.phase then (if a.phase < b.phase then -1 else 1) else if a.thread ≠ b.thread then (if a.thread < b.thread then -1 else 1) else 0
theorem below_c (b : Bool) : Cd Tryz.prog 48 [bo b] (i64 (if b then -1 else 1)) [] := by
 cases b
 all_goals
  refine Cd.enter' Tryz.func48 rfl Tryz.ntmps48 rfl ?_
  repeat' (first | refine uA ?_ | refine uC ?_ | fail)
  all_goals (exact Fin.q Tryz.results48 (.cons (.tmp rfl) .nil) [])
theorem order1_c (x y : DOp) : Cd Tryz.prog 47 [aOp x, aOp y] (i64 (cmpO x y)) [] := by
 obtain ⟨t1, s1, p1, ⟨k1, ar1, v1, d1, cs1⟩⟩ := x
 obtain ⟨t2, s2, p2, ⟨k2, ar2, v2, d2, cs2⟩⟩ := y
 unfold cmpO
 dsimp only
 by_cases h1 : p1 = p2
 ·rw [if_neg (by simp [h1])]
  by_cases h2 : t1 = t2
  ·rw [if_neg (by simp [h2])]
   refine Cd.enter' Tryz.func47 rfl Tryz.ntmps47 rfl ?_
   repeat' (first | refine uA ?_ | refine uC ?_ | fail)
   all_goals first | (exfalso; omega) | (exact Fin.q Tryz.results47 (.cons (.tmp rfl) .nil) [])
  ·rw [if_pos h2]
   have cB := below_c (decide (t1 < t2))
   by_cases h3 : t1 < t2
   ·rw [if_pos h3]
    rw [decide_eq_true h3] at cB
    refine Cd.enter' Tryz.func47 rfl Tryz.ntmps47 rfl ?_
    repeat' (first | ((with_reducible refine kAL ?_); (first | refine uK (cB) ?_ | refine uA ?_)) | refine uC ?_ | fail)
    all_goals first | (exfalso; omega) | (exact Fin.q Tryz.results47 (.cons (.tmp rfl) .nil) [])
   ·rw [if_neg h3]
    rw [decide_eq_false h3] at cB
    refine Cd.enter' Tryz.func47 rfl Tryz.ntmps47 rfl ?_
    repeat' (first | ((with_reducible refine kAL ?_); (first | refine uK (cB) ?_ | refine uA ?_)) | refine uC ?_ | fail)
    all_goals first | (exfalso; omega) | (exact Fin.q Tryz.results47 (.cons (.tmp rfl) .nil) [])
 ·rw [if_pos h1]
  have cB := below_c (decide (p1 < p2))
  by_cases h3 : p1 < p2
  ·rw [if_pos h3]
   rw [decide_eq_true h3] at cB
   refine Cd.enter' Tryz.func47 rfl Tryz.ntmps47 rfl ?_
   repeat' (first | ((with_reducible refine kAL ?_); (first | refine uK (cB) ?_ | refine uA ?_)) | refine uC ?_ | fail)
   all_goals first | (exfalso; omega) | (exact Fin.q Tryz.results47 (.cons (.tmp rfl) .nil) [])
  ·rw [if_neg h3]
   rw [decide_eq_false h3] at cB
   refine Cd.enter' Tryz.func47 rfl Tryz.ntmps47 rfl ?_
   repeat' (first | ((with_reducible refine kAL ?_); (first | refine uK (cB) ?_ | refine uA ?_)) | refine uC ?_ | fail)
   all_goals first | (exfalso; omega) | (exact Fin.q Tryz.results47 (.cons (.tmp rfl) .nil) [])
theorem cmpO_key {x y : DOp} (hx : sI x.thread) (hy : sI y.thread) : cmpO x y < 0 ↔ keyO x < keyO y := by
 unfold cmpO keyO
 unfold sI at hx hy
 repeat' split
 all_goals omega
theorem order_cmp (l : List DOp) (hl : ∀ x ∈ l, sI x.thread) : CmpV_o (.fn (.func 47) [] []) keyO l := fun x hx y hy =>
 ⟨cmpO x y, cmpO_key (hl x hx) (hl y hy), ⟨_, _, [], [], rfl, Tryz.func47, by kernel_rfl, by kernel_rfl, fun _ => .nil, fun _ => .nil, order1_c x y⟩⟩
theorem clone_Op (l : List DOp) (h : l.length ≤ 1759218604441) : Cd Tryz.prog 45 [.ln (l.map tOp)] (.sl 0 0 l.length) [.row 0 38 8 (l.map tOp)] := by
 refine Cd.enter' Tryz.func45 rfl Tryz.ntmps45 rfl ?_
 repeat' (first | ((with_reducible refine kAL ?_); (first | refine A_eqnil rfl rfl 36 _ _ rfl ud36 rfl (fun b hb => ?_) | refine uA ?_)) | refine uC ?_ | refine kcc rfl (fun hc => ?_) (fun hc => ?_) | fail)
 ·have hl : l = [] := by simpa using hb hc
  subst hl
  refine Fin.wk (Wk.own 2 rfl 38 8 (.push rfl rfl)) ?_
  exact Fin.q Tryz.results45 (.cons (.tmp rfl) .nil) [0]
 ·exact Fin.q Tryz.results45 (.cons (.tmp rfl) .nil) [0]
theorem order_c (l : List DOp) (h : l.length ≤ 1759218604441) (hl : ∀ x ∈ l, sI x.thread) : Cd Tryz.prog 20 [.ln (l.map tOp)] (.sl 0 0 l.length) [.row 0 38 8 ((isort keyO l).map tOp)] := by
 have c1 := clone_Op l (by omega)
 have c2 := fun k => sortStable_c_o 47 [] [] keyO l k (by omega) (order_cmp l hl) rfl (fun _ _ => .fnL .nil .nil)
 refine Cd.enter' Tryz.func20 rfl Tryz.ntmps20 rfl ?_
 repeat' (first | ((with_reducible refine kAL ?_); (first | refine uK (c1) ?_ | refine uI [0] (c2 _) ?_ | refine uA ?_)) | refine uC ?_ | fail)
 all_goals first | (exfalso; omega) | (exact Fin.q Tryz.results20 (.cons (.tmp rfl) .nil) [0])
theorem ahead_c (x y : DOp) (hx : sI x.thread) (hy : sI y.thread) : Cd Tryz.prog 49 [aOp x, aOp y] (bo (decide (keyO x < keyO y))) [] := by
 have hk : decide (keyO x < keyO y) = (decide (x.phase < y.phase) || (decide (x.phase = y.phase) && decide (x.thread < y.thread))) := by
  unfold keyO
  unfold sI at hx hy
  by_cases h1 : x.phase < y.phase
  ·rw [decide_eq_true h1, decide_eq_true (by omega)]; rfl
  ·by_cases h2 : x.phase = y.phase
   ·rw [decide_eq_false h1, decide_eq_true h2, Bool.false_or, Bool.true_and]
    exact decide_eq_decide.2 (by omega)
   ·rw [decide_eq_false h1, decide_eq_false h2, decide_eq_false (by omega)]; rfl
 rw [hk]
 obtain ⟨t1, s1, p1, ⟨k1, ar1, v1, d1, cs1⟩⟩ := x
 obtain ⟨t2, s2, p2, ⟨k2, ar2, v2, d2, cs2⟩⟩ := y
 dsimp only
 by_cases h1 : p1 < p2
 ·rw [decide_eq_true h1]
  refine Cd.enter' Tryz.func49 rfl Tryz.ntmps49 rfl ?_
  repeat' (first | refine uA ?_ | refine uC ?_ | fail)
  all_goals first | (exfalso; omega) | (exact Fin.q Tryz.results49 (.cons (.tmp rfl) .nil) [])
 ·rw [decide_eq_false h1, Bool.false_or]
  by_cases h2 : p1 = p2
  ·rw [decide_eq_true h2, Bool.true_and]
   refine Cd.enter' Tryz.func49 rfl Tryz.ntmps49 rfl ?_
   repeat' (first | refine uA ?_ | refine uC ?_ | fail)
   all_goals first | (exfalso; omega) | (exact Fin.q Tryz.results49 (.cons (.tmp rfl) .nil) [])
  ·rw [decide_eq_false h2, Bool.false_and]
   refine Cd.enter' Tryz.func49 rfl Tryz.ntmps49 rfl ?_
   repeat' (first | refine uA ?_ | refine uC ?_ | fail)
   all_goals first | (exfalso; omega) | (exact Fin.q Tryz.results49 (.cons (.tmp rfl) .nil) [])
end
section
attribute [local irreducible] AL AW RG Fin C Cd Cio thenQ blockQ retQ
set_option maxRecDepth 100000
theorem keyO_last {S : List DOp} (hs : srtd keyO S) {k : Nat} {z : DOp} (hz : S[k]? = some z) {v : Int} (hk : ¬ v < keyO z) : ∀ y ∈ S.take (k + 1), ¬ v < keyO y := fun y hy => by
 obtain ⟨j, hj⟩ := List.mem_iff_getElem?.1 hy
 rw [List.getElem?_take] at hj
 split at hj
 ·rename_i hjk
  obtain ⟨h1, e1⟩ := List.getElem?_eq_some_iff.1 hj
  obtain ⟨h2, e2⟩ := List.getElem?_eq_some_iff.1 hz
  by_cases e : j = k
  ·subst e; rw [hj] at hz; cases hz; exact hk
  ·have := (List.pairwise_iff_getElem.1 hs) j k h1 h2 (by omega)
   rw [e1, e2] at this
   omega
 ·cases hj
theorem rorder_c (l : List DOp) (h : l.length ≤ 1759218604441) (hl : ∀ x ∈ l, sI x.thread) : Cd Tryz.prog 21 [.ln (l.map tOp)] (.t (.lst ((isort keyO l).map tOp))) [] := by
 have h1 : (l.map tOp).length = l.length := List.length_map _
 refine Cd.enter' Tryz.func21 rfl Tryz.ntmps21 rfl ?_
 repeat' (first | ((with_reducible refine kAL ?_); (first | (refine zkD 3 rfl ?_; refine uA ?_; (try refine AL.wk (Wk.nz 3 rfl (by exact .nlt)) ?_)) | refine uA ?_)) | refine uC ?_ | fail)
 all_goals first | (exfalso; omega) | skip
 refine AW.loopP (fun (x : Nat × List DOp) => x.1 ≤ l.length ∧ x.2 = isort keyO (l.take x.1)) (fun (x : Nat × List DOp) => (pu (pu (pu (pu (pu (fun _ => .any) 0 (.ln (l.map tOp))) 3 (.t (.lst (x.2.map tOp)))) 8 (.ln (l.map tOp))) 9 (i64 (l.map tOp).length)) 10 (i64 x.1))) (fun (x : Nat × List DOp) => []) (fun (x : Nat × List DOp) => l.length - x.1) ((0, [])) ?_ ?_ ?_
 ·exact ⟨Nat.zero_le _, rfl⟩
 ·exact Wk.cq 0
 ·rintro ⟨i, S⟩ ⟨h2, h3⟩
  dsimp only at h2 h3 ⊢
  have hSl : S.length = i := by rw [h3, isort_len, List.length_take]; omega
  have hSt : (S.map tOp).length = i := by rw [List.length_map, hSl]
  have hSs : srtd keyO S := by rw [h3]; exact (isort_all _ _).1
  have hSm : ∀ z ∈ S, sI z.thread := fun z hz => hl z (List.mem_of_mem_take (isort_mem.1 (by rw [← h3]; exact hz)))
  by_cases hi : i < l.length
  ·obtain ⟨x, hx⟩ : ∃ x, l[i]? = some x := ⟨_, List.getElem?_eq_getElem hi⟩
   have hxs := hl x (List.mem_of_getElem? hx)
   have hn : isort keyO (l.take (i + 1)) = insS keyO x S := by rw [List.take_add_one, hx, h3]; exact isort_next
   have hA := fun y hy => ahead_c x y hxs hy
   generalize hkx : keyO x = kx at *
   obtain ⟨t, s, p, ⟨qk, qa, qv, qd, cs⟩⟩ := x
   dsimp only [aOp] at hA
   repeat' (first | refine uA ?_ | refine uC ?_ | fail)
   all_goals first | (exfalso; omega) | skip
   refine AW.loopP (fun (a : Nat) => a ≤ S.length ∧ ∀ z ∈ S.drop a, kx < keyO z) (fun (a : Nat) => (pu (pu (pu (pu (pu (pu (pu (fun _ => .any) 0 (.ln (l.map tOp))) 3 (.t (.lst (S.map tOp)))) 5 (.ptr 0 0)) 6 (i64 a)) 8 (.ln (l.map tOp))) 9 (i64 (l.map tOp).length)) 10 (i64 i))) (fun (a : Nat) => [.box 38 [i64 t, i64 s, i64 p, i64 qk, i64 qa, i64 qv, bo qd, .t (.lst (cs.map tCs))]]) (fun (a : Nat) => a) (S.length) ?_ ?_ ?_
   ·exact ⟨Nat.le_refl _, fun z hz => by rw [List.drop_length] at hz; cases hz⟩
   ·rw [show ((S.length : Nat) : Int) = ((S.map tOp).length : Nat) by rw [List.length_map]]
    exact Wk.cq 1
   ·rintro a ⟨h4, h5⟩
    have done : ∀ (hq : ∀ y ∈ S.take a, ¬ kx < keyO y), (S.take a ++ [(⟨t, s, p, ⟨qk, qa, qv, qd, cs⟩⟩ : DOp)]) ++ (S.drop a).take (S.length - a) = isort keyO (l.take (i + 1)) := fun hq => by
     rw [hn, show (S.drop a).take (S.length - a) = S.drop a from List.take_of_length_le (by rw [List.length_drop]; exact Nat.le_refl _)]
     conv => rhs; rw [← List.take_append_drop a S]
     rw [insS_at (by rw [hkx]; exact hq) (by rw [hkx]; exact h5), List.append_assoc]; rfl
    have hta : ((S.take a).map tOp).length = a := by rw [List.length_map, List.length_take]; omega
    have hda : (((S.drop a).take (S.length - a)).map tOp).length = i - a := by rw [List.length_map, List.length_take, List.length_drop]; omega
    have hta2 : (S.take a).length = a := by rw [List.length_take]; omega
    have hda2 : ((S.drop a).take (S.length - a)).length = i - a := by rw [List.length_take, List.length_drop]; omega
    by_cases ha : 0 < a
    ·obtain ⟨b, rfl⟩ : ∃ b, a = b + 1 := ⟨a - 1, by omega⟩
     obtain ⟨z, hz⟩ : ∃ z, S[(((b + 1 : Nat) : Int) - 1).toNat]? = some z := ⟨_, List.getElem?_eq_getElem (by omega)⟩
     have cA := hA z (hSm z (List.mem_of_getElem? hz))
     by_cases hk : kx < keyO z
     ·rw [decide_eq_true hk] at cA
      have h6 : ∀ y ∈ S.drop b, kx < keyO y := fun y hy => by
       rw [show (((b + 1 : Nat) : Int) - 1).toNat = b by omega] at hz
       rw [drop_next hz] at hy
       rcases List.mem_cons.1 hy with rfl | hy
       ·exact hk
       ·exact h5 y hy
      clear hta hda hta2 hda2 done
      obtain ⟨t', s', p', ⟨qk', qa', qv', qd', cs'⟩⟩ := z
      repeat' (first | refine uA ?_ | ((with_reducible refine kRG ?_); (first | refine uQ (cA) 0 ?_ | refine uR ?_)) | refine uC ?_ | refine AW.drawU (id := 6) mixed 0 qR ?_ | fail)
      all_goals first | (exfalso; omega) | skip
      refine ⟨b, ⟨by omega, h6⟩, by omega, ?_⟩
      rw [show ((b + 1 : Nat) : Int) - 1 = (b : Int) by omega]
      exact Wk.cq 1
     ·rw [decide_eq_false hk] at cA
      have hq : ∀ y ∈ S.take (b + 1), ¬ kx < keyO y := by
       rw [show (((b + 1 : Nat) : Int) - 1).toNat = b by omega] at hz
       exact keyO_last hSs hz hk
      have hd := done hq
      clear done
      obtain ⟨t', s', p', ⟨qk', qa', qv', qd', cs'⟩⟩ := z
      repeat' (first | ((with_reducible refine kAL ?_); (first | (refine zkD 3 rfl ?_; refine uA ?_; (try refine AL.wk (Wk.freeze 1 rfl 3 rfl (by exact .all (by (simp; omega))) qN) ?_)) | refine A_lit rfl rfl 36 1 _ rfl ud36 inf38 (.cons rfl .nil) (els := [[_, _, _, _, _, _, _, _]]) rfl (by exact (rfl : _ = List.map tOp [⟨_, _, _, ⟨_, _, _, _, _⟩⟩])) rfl (Nat.ne_of_beq_eq_false rfl) (Nat.le_of_ble_eq_true rfl) (Nat.le_of_ble_eq_true rfl) (.push qL qN) ?_ | refine uA ?_)) | ((with_reducible refine kRG ?_); (first | refine uQ (cA) 0 ?_ | refine uR ?_)) | refine uC ?_ | refine AW.drawU (id := 6) mixed 0 qR ?_ | fail)
      all_goals first | (exfalso; omega) | skip
      refine ⟨(i + 1, isort keyO (l.take (i + 1))), ⟨by dsimp only; omega, rfl⟩, by dsimp only; omega, ?_⟩
      dsimp only
      rw [← hd]
      exact Wk.cq 0
    ·obtain rfl : a = 0 := by omega
     have hd := done (fun y hy => by rw [List.take_zero] at hy; cases hy)
     clear done
     rw [Nat.sub_zero, List.drop_zero] at hda hda2
     rw [Nat.sub_zero, List.drop_zero, List.take_zero, List.nil_append] at hd
     repeat' (first | ((with_reducible refine kAL ?_); (first | (refine zkD 3 rfl ?_; refine uA ?_; (try refine AL.wk (Wk.freeze 1 rfl 3 rfl (by exact .all (by (simp; omega))) qN) ?_)) | refine A_lit rfl rfl 36 1 _ rfl ud36 inf38 (.cons rfl .nil) (els := [[_, _, _, _, _, _, _, _]]) rfl (by exact (rfl : _ = List.map tOp [⟨_, _, _, ⟨_, _, _, _, _⟩⟩])) rfl (Nat.ne_of_beq_eq_false rfl) (Nat.le_of_ble_eq_true rfl) (Nat.le_of_ble_eq_true rfl) (.push qL qN) ?_ | refine uA ?_)) | refine uR ?_ | refine uC ?_ | refine AW.drawU (id := 6) mixed 0 qR ?_ | fail)
     all_goals first | (exfalso; omega) | skip
     refine ⟨(i + 1, isort keyO (l.take (i + 1))), ⟨by dsimp only; omega, rfl⟩, by dsimp only; omega, ?_⟩
     dsimp only
     rw [← hd]
     exact Wk.cq 0
  ·obtain rfl : i = l.length := by omega
   rw [List.take_length] at h3
   subst h3
   repeat' (first | refine uA ?_ | refine uC ?_ | fail)
   all_goals first | (exfalso; omega) | (exact Fin.q Tryz.results21 (.cons (.tmp rfl) .nil) [])
end
section
theorem val_frz {Kn : Nat → Nat → Prop} {ρ : Rho} {w : World} {Z Y : Nat → Prop} {els : List (List Tr)} {v : Value} (h : Val Kn ρ w Z Y (.ln els) v) (hz : ∀ b, Y b → Z b) : Val Kn ρ w Z Y (.t (.lst els)) v := by
 cases h with
 | ln hr hz' hn he => exact .t (Frz.shut hn hr (fun hne => hz _ (hz' hne)) he)
def frzV : AV → AV
 | .ln els => .t (.lst els)
 | x => x
theorem val_frzV {Kn : Nat → Nat → Prop} {ρ : Rho} {w : World} {Z Y : Nat → Prop} {x : AV} {v : Value} (h : Val Kn ρ w Z Y x v) (hz : ∀ b, Y b → Z b) : Val Kn ρ w Z Y (frzV x) v := by
 cases x <;> first | exact h | exact val_frz h hz
theorem val_frzA {Kn : Nat → Nat → Prop} {ρ : Rho} {w : World} {Z Y : Nat → Prop} {l : List AV} {v : Value} (h : Val Kn ρ w Z Y (.agg l) v) (hz : ∀ b, Y b → Z b) : Val Kn ρ w Z Y (.agg (l.map frzV)) v := by
 cases h with
 | agg h1 ho hu =>
  refine .agg (by rw [List.length_map]; exact h1) ho (fun j x u hj hu' => ?_)
  rw [List.getElem?_map] at hj
  cases hy : l[j]? with
  | none => rw [hy] at hj; cases hj
  | some y => rw [hy] at hj; cases hj; exact val_frzV (hu j y u hy hu') hz
end
section
attribute [local irreducible] AL AW RG Fin C Cd Cio thenQ blockQ retQ
set_option maxRecDepth 100000
def c14 : DConf := ⟨1, 1, 0, 2, 1, 1, 0, 1, 9, 0, []⟩
def q14 : DReq := ⟨8, 0, 7, false, []⟩
def l14 : List DOp := [⟨2, 0, 5, ⟨0, 0, 0, false, []⟩⟩, ⟨1, 0, 5, ⟨0, 0, 0, false, []⟩⟩, ⟨3, 0, 4, ⟨0, 0, 0, false, []⟩⟩]
def m14 : List DOp := [⟨3, 0, 4, ⟨0, 0, 0, false, []⟩⟩, ⟨1, 0, 5, ⟨0, 0, 0, false, []⟩⟩, ⟨2, 0, 5, ⟨0, 0, 0, false, []⟩⟩]
theorem st14 : startO c14 = [0, 0, 0, 0] := by decide +kernel
theorem ap14 : applyO c14 [0, 0, 0, 0] 0 1 q14 = [1, 7, 0, 17592186044416] := by decide +kernel
theorem dn14 : doneL c14 [1, 7, 0, 17592186044416] 0 = 17592186044416 := by decide +kernel
theorem or14 : isort keyO l14 = m14 := by decide +kernel
theorem order_F (l : List DOp) (h : l.length ≤ 1759218604441) (hl : ∀ x ∈ l, sI x.thread) : Cd Tryz.prog 20 [.ln (l.map tOp)] (.t (.lst ((isort keyO l).map tOp))) [] := by
 have h0 := order_c l h hl
 rw [← isort_len (key := keyO) l] at h0
 generalize isort keyO l = m at *
 have h0' := Cd.frz1 h0 0 rfl (by repeat' (first | exact FzL.nil | apply FzL.cons | exact FzR.nlt | exact FzR.all (by first | rfl | (simp <;> fail) | (simp; omega)) | exact FzR.sl (by first | exact Nat.le_refl _ | (simp <;> fail) | (simp; omega)) | apply FzR.aggL | exact FzR.same _)) rfl; exact Cd.drop h0' rfl
theorem awake14_c : Cd Tryz.prog 13 [] (bo true) [] := by
 have c1 := start_o c14 (by decide)
 have c2 := apply_o c14 [0, 0, 0, 0] 0 1 q14 (by decide) (by unfold okU; decide) (by decide) ⟨by unfold sI; decide, by unfold sI; decide, by unfold sI; decide, trivial, by decide, fun x hx => by cases hx⟩ (by decide)
 have c3 := order_F l14 (by decide) (by unfold sI l14; decide)
 have c4 := done1_o c14 (by decide) [1, 7, 0, 17592186044416] 0 (by decide)
 rw [st14] at c1
 rw [ap14] at c2
 rw [dn14] at c4
 rw [or14] at c3
 dsimp only [fCf, aCf, aRq, c14, q14, l14, m14] at c1 c2 c3 c4
 refine Cd.enter' Tryz.func13 rfl Tryz.ntmps13 rfl ?_
 repeat' (first | ((with_reducible refine kAL ?_); (first | (refine zkD 4 rfl ?_; refine uA ?_; (try refine AL.wk (Wk.nz 4 rfl (by exact .aggL (.cons (by exact .same _) (.cons (by exact .same _) (.cons (by exact .same _) (.cons (by exact .same _) (.cons (by exact .same _) (.cons (by exact .same _) (.cons (by exact .same _) (.cons (by exact .same _) (.cons (by exact .same _) (.cons (by exact .same _) (.cons (by exact .nlt) .nil))))))))))))) ?_)) | (refine zkD 10 rfl ?_; refine uA ?_; (try refine AL.wk (Wk.nz 10 rfl (by exact .aggL (.cons (by exact .same _) (.cons (by exact .same _) (.cons (by exact .same _) (.cons (by exact .same _) (.cons (by exact .same _) (.cons (by exact .same _) (.cons (by exact .same _) (.cons (by exact .nlt) .nil)))))))))) ?_)) | (refine zkD 11 rfl ?_; refine uA ?_; (try refine AL.wk (Wk.nz 11 rfl (by exact .aggL (.cons (by exact .same _) (.cons (by exact .same _) (.cons (by exact .same _) (.cons (by exact .same _) (.cons (by exact .same _) (.cons (by exact .same _) (.cons (by exact .same _) (.cons (by exact .nlt) .nil)))))))))) ?_)) | (refine zkD 12 rfl ?_; refine uA ?_; (try refine AL.wk (Wk.nz 12 rfl (by exact .aggL (.cons (by exact .same _) (.cons (by exact .same _) (.cons (by exact .same _) (.cons (by exact .same _) (.cons (by exact .same _) (.cons (by exact .same _) (.cons (by exact .same _) (.cons (by exact .nlt) .nil)))))))))) ?_)) | refine A_lit rfl rfl 36 3 _ rfl ud36 inf38 (.cons rfl (.cons rfl (.cons rfl .nil))) (els := [[_, _, _, _, _, _, _, _], [_, _, _, _, _, _, _, _], [_, _, _, _, _, _, _, _]]) rfl (by ((try simp only [List.take_zero, List.take_succ_cons, List.drop_zero, List.drop_succ_cons, List.nil_append, List.cons_append, List.append_nil, List.length_cons, List.length_nil, List.set_cons_zero, List.set_cons_succ, List.map_cons, List.map_nil, List.take_nil, List.drop_nil, Nat.zero_add, Nat.add_zero, Nat.reduceAdd, Nat.reduceSub]); rfl)) rfl (Nat.ne_of_beq_eq_false rfl) (Nat.le_of_ble_eq_true rfl) (Nat.le_of_ble_eq_true rfl) (.push qL qN) ?_ | refine uK (c3) ?_ | refine uK (c4) ?_ | refine uA ?_)) | ((with_reducible refine kRG ?_); (first | refine uQ (c1) 0 ?_ | refine uQ (c2) 0 ?_ | refine uR ?_)) | refine uC ?_ | refine AW.drawU (id := 2) mixed 4 qR ?_ | fail)
 all_goals first | (exfalso; omega) | (exact Fin.q Tryz.results13 (.cons (.tmp rfl) .nil) [])
theorem objectApplies_c (c : DConf) (l : List Int) (t n : Int) (q : DReq) (hs : c.start.length ≤ 1152921504606846976) (hU : okU l) (hl : l.length ≤ 17592186044415) (hq : sRq q) (hq0 : q.cases.length ≤ 5864062014805) :
  Cd Tryz.prog 3 [fCf c, fU l, i64 t, i64 n, aRq q] (bo true) [] := by
 have h1 : (l.map tU).length = l.length := List.length_map _
 have hz := sizeC_b c
 have c1 := apply_o c l t n q hs hU hl hq hq0
 have c2 := rapply_o c l t n q hs hU hl hq hq0
 have w1 := words_same (applyO c l t n q) (by have := applyO_len (c := c) (l := l) (b := 17592186044415) (by decide) hl t n q; omega)
 have c3 := done1_o c hs l t (by omega)
 have c4 := rdone_o c hs l t (by omega)
 have c5 := start_o c hs
 have c6 := rstart_o c hs
 have w2 := words_same (startO c) (by have := (startO_is c).len; omega)
 have w3 := words_same l (by omega)
 have cA := awake14_c
 generalize applyO c l t n q = g at *
 generalize startO c = s at *
 generalize doneL c l t = d at *
 dsimp only [fCf, aCf, aRq] at *
 refine Cd.enter' Tryz.func3 rfl Tryz.ntmps3 rfl ?_
 repeat' (first | ((with_reducible refine kAL ?_); (first | (refine zkD 11 rfl ?_; refine uA ?_; (try refine AL.wk (Wk.freeze 2 rfl 11 rfl (by first | exact .all (by first | (simp <;> fail) | fail) | fail) qN) ?_)) | refine uA ?_)) | ((with_reducible refine kRG ?_); (first | refine uQ (c1) 0 ?_ | refine uQ (c2) 0 ?_ | refine uQ (w1) 0 ?_ | refine uQ (w2) 0 ?_ | refine uQ (w3) 0 ?_ | refine uQ (c3) 0 ?_ | refine uQ (c4) 0 ?_ | refine uQ (c5) 0 ?_ | refine uQ (c6) 0 ?_ | refine uQ (cA) 0 ?_ | refine uR ?_)) | refine uC ?_ | refine AW.drawU (id := 2) mixed 0 qR ?_ | fail)
 all_goals first | (exfalso; omega) | (exact Fin.q Tryz.results3 (.cons (.tmp rfl) .nil) [])
theorem objectOrder_c (c : DConf) (l : List Int) (ops : List DOp) (hs : c.start.length ≤ 1152921504606846976) (hU : okU l) (hl : l.length ≤ 17592186044415) (ho : ops.length ≤ 1152921504606846976) (hq : ∀ x ∈ ops, sOp x) (hq0 : ∀ x ∈ ops, x.req.cases.length ≤ 5864062014805) :
  Cd Tryz.prog 5 [fCf c, fU l, .ln (ops.map tOp)] (bo true) [] := by
 have h1 : (ops.map tOp).length = ops.length := List.length_map _
 have cA := awake14_c
 by_cases h60 : 60 < ops.length
 ·dsimp only [fCf, aCf] at *
  refine Cd.enter' Tryz.func5 rfl Tryz.ntmps5 rfl ?_
  repeat' (first | ((with_reducible refine kAL ?_); (first | refine uK (cA) ?_ | refine uA ?_)) | refine uC ?_ | fail)
  all_goals first | (exfalso; omega) | (exact Fin.q Tryz.results5 (.cons (.tmp rfl) .nil) [])
 ·have hT : ∀ x ∈ ops, sI x.thread := fun x hx => (hq x hx).1
  have c1 := order_F ops (by omega) hT
  have c2 := rorder_c ops (by omega) hT
  have p1 := opsS_c (isort keyO ops) (by rw [isort_len]; omega) (fun x hx => by have := hq0 x (isort_mem.1 hx); omega)
  have c3 := all_o c l ops hs hU hl ho (fun x hx => (hq x hx).2.2.2) hq0
  have c4 := rall_o c l ops hs hU hl ho (fun x hx => (hq x hx).2.2.2) hq0
  have w1 := words_same (allO c l ops ops.length) (by have := (allO_ok (c := c) (l := l) ops (b := 17592186044415) (by decide) hl hU ops.length).1; omega)
  generalize allO c l ops ops.length = g at *
  generalize isort keyO ops = m at *
  dsimp only [fCf, aCf] at *
  refine Cd.enter' Tryz.func5 rfl Tryz.ntmps5 rfl ?_
  repeat' (first | refine uA ?_ | ((with_reducible refine kRG ?_); (first | refine uQ (c1) 0 ?_ | refine uQ (c2) 0 ?_ | refine uQ (p1) 0 ?_ | refine uQ (c3) 0 ?_ | refine uQ (c4) 0 ?_ | refine uQ (w1) 0 ?_ | refine uQ (cA) 0 ?_ | refine uR ?_)) | refine uC ?_ | refine AW.drawU (id := 3) mixed 0 qR ?_ | fail)
  all_goals first | (exfalso; omega) | (exact Fin.q Tryz.results5 (.cons (.tmp rfl) .nil) [])
theorem objectStays_c (c : DConf) (ops : List DOp) (hs : c.start.length ≤ 1152921504606846976) (ho : ops.length ≤ 1152921504606846976) (hq : ∀ x ∈ ops, sOp x) (hq0 : ∀ x ∈ ops, x.req.cases.length ≤ 5864062014805) :
  Cd Tryz.prog 4 [fCf c, .ln (ops.map tOp)] (bo true) [] := by
 have h1 : (ops.map tOp).length = ops.length := List.length_map _
 have cA := awake14_c
 by_cases h60 : 60 < ops.length
 ·dsimp only [fCf, aCf] at *
  refine Cd.enter' Tryz.func4 rfl Tryz.ntmps4 rfl ?_
  repeat' (first | ((with_reducible refine kAL ?_); (first | refine uK (cA) ?_ | refine uA ?_)) | refine uC ?_ | fail)
  all_goals first | (exfalso; omega) | (exact Fin.q Tryz.results4 (.cons (.tmp rfl) .nil) [])
 ·have cS := start_o c hs
  have cZ := rsize_c c hs
  have hz := sizeC_b c
  have hok := runO_all c ops
  have hN := @runO_next c ops
  have h0 : runO c ops 0 = startO c := rfl
  rw [← h0] at cS
  obtain ⟨m, hm⟩ : ∃ m : Nat, sizeC c = m := ⟨(sizeC c).toNat, by have := (hok 0).1.len; omega⟩
  have hL : ∀ k, (runO c ops k).length = m := fun k => by have := (hok k).1.len; omega
  have hLt : ∀ k, ((runO c ops k).map tU).length = m := fun k => by rw [List.length_map, hL]
  rw [hm] at cZ hz
  generalize runO c ops = L at *
  first | refine Cd.enter' Tryz.func4 rfl Tryz.ntmps4 rfl ?_ | refine Cio.enter' Tryz.func4 rfl Tryz.ntmps4 rfl qM ?_ | refine C.enter' Tryz.func4 rfl Tryz.ntmps4 rfl qM ?_
  repeat' (first | ((with_reducible refine kAL ?_); (first | refine uK (cS) ?_ | refine uA ?_)) | refine uC ?_ | fail)
  all_goals first | (exfalso; omega) | skip
  refine AW.loopP (fun (k : Nat) => k ≤ ops.length) (fun (k : Nat) => (pu (pu (pu (pu (pu (fun _ => .any) 2 (.ptr 0 0)) 5 (.t (.lst ((L k).map tU)))) 20 (.ln (ops.map tOp))) 21 (i64 (ops.map tOp).length)) 22 (i64 k))) (fun (k : Nat) => [.box 24 [i64 c.kind, i64 c.threads, i64 c.chans, i64 c.cap, i64 c.nodes, i64 c.retire, i64 c.patience, i64 c.tags, i64 c.seqs, i64 c.gens, .t (.lst (c.start.map tI))]]) (fun (k : Nat) => ops.length - k) (0) ?_ ?_ ?_
  ·exact Nat.zero_le _
  ·exact Wk.cq 1
  ·intro k hk
   by_cases hi : k < ops.length
   ·obtain ⟨x, hx⟩ : ∃ x, ops[k]? = some x := ⟨_, List.getElem?_eq_getElem hi⟩
    have hxm := List.mem_of_getElem? hx
    obtain ⟨is, hU⟩ := hok k
    have cP := apply_o c (L k) x.thread x.seq x.req hs hU (by rw [hL]; omega) (hq x hxm).2.2.2 (hq0 x hxm)
    have hn := hN hx
    rw [← hn] at cP
    have cD := done1_o c hs (L (k + 1)) x.thread (by rw [hL]; omega)
    have hw := doneL_U (c := c) (hok (k + 1)).2 x.thread
    have cR := rread_c _ hw
    have cF := rFits_c x.req (by have := hq0 x hxm; omega)
    have says := fun hm => applyO_says is (t := x.thread) (n := x.seq) (q := x.req) hm
    rw [← hn, hL] at says
    have hl1 := hL (k + 1)
    have hl2 := hLt (k + 1)
    have hl3 := hL k
    have hl4 := hLt k
    clear hN hL hLt hok hU is hn hw
    generalize doneL c (L (k + 1)) x.thread = w at *
    obtain ⟨⟨r1, r2, r3, r4⟩, hr⟩ : ∃ r, readR w = r := ⟨_, rfl⟩
    rw [hr] at cR says
    unfold mayO at says
    obtain ⟨t, s, p, ⟨qk, qa, qv, qd, cs⟩⟩ := x
    dsimp only [fCf, aCf, aRq, aR] at *
    generalize hG : L (k + 1) = G at *
    generalize fitQ ⟨qk, qa, qv, qd, cs⟩ = b at *
    have cases7 : m = 0 ∨ (0 < m ∧ t < 0) ∨ (0 < m ∧ 0 ≤ t ∧ ¬ t < c.threads) ∨ (0 < m ∧ 0 ≤ t ∧ t < c.threads ∧ s < 0) ∨ (0 < m ∧ 0 ≤ t ∧ t < c.threads ∧ 0 ≤ s ∧ 1048575 < s) ∨ (0 < m ∧ 0 ≤ t ∧ t < c.threads ∧ 0 ≤ s ∧ s ≤ 1048575) := by omega
    rcases cases7 with e | e | e | e | e | e
    case inr.inr.inr.inr.inr =>
     cases b
     ·clear says
      repeat' (first | ((with_reducible refine kAL ?_); (first | refine uK (cP) ?_ | refine uK (cZ) ?_ | refine uK (cD) ?_ | refine uK (cR) ?_ | refine uK (cF) ?_ | refine uA ?_)) | refine uC ?_ | fail)
      all_goals first | (exfalso; omega) | skip
      refine ⟨k + 1, by omega, by omega, ?_⟩
      rw [hG]
      exact Wk.cq 1
     ·have := says (by rw [decide_eq_true (⟨e.2.1, e.2.2.1⟩ : 0 ≤ t ∧ t < c.threads), decide_eq_true (⟨e.2.2.2.1, e.2.2.2.2⟩ : 0 ≤ s ∧ s ≤ 1048575)]; rfl) e.1
      subst this
      clear says
      repeat' (first | ((with_reducible refine kAL ?_); (first | refine uK (cP) ?_ | refine uK (cZ) ?_ | refine uK (cD) ?_ | refine uK (cR) ?_ | refine uK (cF) ?_ | refine uA ?_)) | refine uC ?_ | fail)
      all_goals first | (exfalso; omega) | skip
      refine ⟨k + 1, by omega, by omega, ?_⟩
      rw [hG]
      exact Wk.cq 1
    all_goals
     clear says
     repeat' (first | ((with_reducible refine kAL ?_); (first | refine uK (cP) ?_ | refine uK (cZ) ?_ | refine uK (cD) ?_ | refine uK (cR) ?_ | refine uA ?_)) | refine uC ?_ | fail)
     all_goals first | (exfalso; omega) | skip
     refine ⟨k + 1, by omega, by omega, ?_⟩
     rw [hG]
     exact Wk.cq 1
   ·obtain rfl : k = ops.length := by omega
    obtain ⟨is, hU⟩ := hok ops.length
    have cH := rreadH_c c (L ops.length) hs hU (by rw [hL]; omega)
    have cX := rreadX_c c (L ops.length) hs hU (by rw [hL]; omega)
    have hmay := is.may
    rw [hL] at hmay
    have hl1 := hL ops.length
    have hl2 := hLt ops.length
    clear hN hL hLt hok hU is
    generalize L ops.length = G at *
    generalize readH c G = h at *
    generalize readX c G = x at *
    dsimp only [fCf, aCf, fHl, fCl] at *
    cases e1 : mayH c G <;> cases e2 : mayX c G <;> by_cases e3 : 0 < m
    all_goals
     rw [e1, e2] at hmay
     rw [e1] at cH
     rw [e2] at cX
    all_goals first | (exfalso; simp [e3] at hmay; done) | (exfalso; simp at hmay; omega) | skip
    all_goals
     repeat' (first | ((with_reducible refine kAL ?_); (first | refine uK (cA) ?_ | refine uK (cH) ?_ | refine uK (cX) ?_ | refine uA ?_)) | refine uC ?_ | fail)
     all_goals first | (exfalso; omega) | (exact Fin.q Tryz.results4 (.cons (.tmp rfl) .nil) [])
end
end Go.Proofs.YtbpgopomninedaaGreat
namespace Go.Proofs.YtbpgopomninedaaGreat
set_option linter.unusedVariables false
set_option linter.unusedSimpArgs false
set_option linter.unnecessarySimpa false
end Go.Proofs.YtbpgopomninedaaGreat
