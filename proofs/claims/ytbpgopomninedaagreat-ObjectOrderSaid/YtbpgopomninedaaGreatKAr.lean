/- Joined: XTFifo, XTObjW, XTPlace. -/
import Derived.Test.YtbpgopomninedaaGreatKAg
import Derived.Test.YtbpgopomninedaaGreatKAe
import Derived.Test.YtbpgopomninedaaGreatKAq
import Derived.Test.YtbpgopomninedaaGreatKAn
import Derived.Test.YtbpgopomninedaaGreatKAm
namespace Go.Proofs.YtbpgopomninedaaGreat
open Go.RowKit
set_option linter.unusedVariables false
set_option linter.unusedSimpArgs false
set_option linter.unnecessarySimpa false
set_option maxRecDepth 100000
set_option maxHeartbeats 64000000
section
attribute [local irreducible] AL AW RG Fin C Cd Cio thenQ blockQ retQ
set_option maxRecDepth 100000
theorem copied_c (cap : Int) (l : List Int) (d : List Rst) (hl : l.length ≤ 17592186044416) (hd : d.length ≤ 4398046511104) :
  Cd Tryz.prog 89 [.agg [i64 cap, .ln (l.map tI), .ln (d.map tR)]] (.agg [i64 cap, .sl 0 0 l.length, .sl 1 0 d.length]) [.row 0 3 1 (l.map tI), .row 0 42 4 (d.map tR)] := by
 refine Cd.enter' Tryz.func89 rfl Tryz.ntmps89 rfl ?_
 repeat' (first | refine uA ?_ | ((with_reducible refine kRG ?_); (first | (refine uQ (clone_I _ ?zq0) 2 ?_; (case zq0 => assumption)) | (refine uQ (clone_R _ ?zq0) 3 ?_; (case zq0 => assumption)) | refine uR ?_)) | refine uC ?_ | refine AW.drawU (id := 1) mixed 4 qR ?_ | fail)
 exact Fin.q Tryz.results89 (.cons (.agg rfl rfl ud53 rfl inf53 (us := [_, _, _]) rfl rfl) .nil) [2, 3]
theorem fifoNew_c (cap t : Int) : Cd Tryz.prog 40 [i64 cap, i64 t] (.agg [i64 cap, .nl, .sl 0 0 (max (min t 64) 0).toNat]) [.row 0 42 4 ((List.replicate (max (min t 64) 0).toNat (⟨0, 0, 0, 0⟩ : Rst)).map tR)] := by
 refine Cd.enter' Tryz.func40 rfl Tryz.ntmps40 rfl ?_
 repeat' (first | ((with_reducible refine kAL ?_); (first | refine A_make rfl rfl 47 _ _ rfl ud47 inf42 rfl (zs := [(.v (.int .i64 0)), (.v (.int .i64 0)), (.v (.int .i64 0)), (.v (.int .i64 0))]) rfl rfl rfl (max (min t 64) 0).toNat (by omega) (by omega) qB qB (by exact rep_map (f := tR) (x := ⟨_, _, _, _⟩)) (.push qL qN) ?_ | refine uA ?_)) | refine uC ?_ | fail)
 exact Fin.q Tryz.results40 (.cons (.agg rfl rfl ud53 rfl inf53 (us := [_, _, _]) rfl rfl) .nil) [1]
theorem ftold_c (cap : Int) (l : List Int) (d : List Rst) (k1 k2 : Nat) (t s k v : Int) :
  Cio Tryz.prog 90 [.agg [i64 cap, .sl 0 k1 l.length, .sl 1 k2 d.length], i64 t, i64 s, i64 k, i64 v] [.row k1 3 1 (l.map tI), .row k2 42 4 (d.map tR)]
   (.agg [i64 cap, .sl 0 k1 l.length, .sl 1 k2 d.length]) [.row k1 3 1 (l.map tI), .row k2 42 4 ((setR d t ⟨s, 0, k, v⟩).map tR)] := by
 by_cases h0 : 0 ≤ t
 ·by_cases h1 : t < d.length
  ·rw [setR_yes h0 h1]
   obtain ⟨i, rfl⟩ := Int.eq_ofNat_of_zero_le h0
   rw [Int.toNat_natCast]
   have h2 : i < d.length := by omega
   obtain ⟨x, hx⟩ : ∃ x, d[i]? = some x := ⟨_, List.getElem?_eq_getElem h2⟩
   refine Cio.enter' Tryz.func90 rfl Tryz.ntmps90 rfl qM ?_
   repeat' (first | refine uA ?_ | refine uC ?_ | fail)
   all_goals exact Fin.q Tryz.results90 (.cons (.agg rfl rfl ud53 rfl inf53 (us := [_, _, _]) rfl rfl) .nil) []
  ·rw [setR_no (fun h => h1 h.2)]
   refine Cio.enter' Tryz.func90 rfl Tryz.ntmps90 rfl qM ?_
   repeat' (first | refine uA ?_ | refine uC ?_ | fail)
   all_goals exact Fin.q Tryz.results90 (.cons (.agg rfl rfl ud53 rfl inf53 (us := [_, _, _]) rfl rfl) .nil) []
 ·rw [setR_no (fun h => h0 h.1)]
  refine Cio.enter' Tryz.func90 rfl Tryz.ntmps90 rfl qM ?_
  repeat' (first | refine uA ?_ | refine uC ?_ | fail)
  all_goals exact Fin.q Tryz.results90 (.cons (.agg rfl rfl ud53 rfl inf53 (us := [_, _, _]) rfl rfl) .nil) []
theorem told_n (cap : Int) (l : List Int) (d : List Rst) (k1 k2 : Nat) (t s k v : Int) {n m : Nat} (hn : n = l.length) (hm : m = d.length) :
  Cio Tryz.prog 90 [.agg [i64 cap, .sl 0 k1 n, .sl 1 k2 m], i64 t, i64 s, i64 k, i64 v] [.row k1 3 1 (l.map tI), .row k2 42 4 (d.map tR)]
   (.agg [i64 cap, .sl 0 k1 n, .sl 1 k2 m]) [.row k1 3 1 (l.map tI), .row k2 42 4 ((setR d t ⟨s, 0, k, v⟩).map tR)] := by
 subst hn hm
 exact ftold_c cap l d k1 k2 t s k v
def appl (lifo : Bool) (cap : Int) (l : List Int) (d : List Rst) (t s k v : Int) : List Int × List Rst :=
 if k = 8 then if (l.length : Int) ≥ cap then (l, setR d t ⟨s, 0, 10, 0⟩) else (l ++ [v], setR d t ⟨s, 0, 0, 0⟩)
 else if k = 9 then (if l.length = 0 then (l, setR d t ⟨s, 0, 10, 0⟩) else if lifo then (l.take (l.length - 1), setR d t ⟨s, 0, 0, l.getD (l.length - 1) 0⟩) else (l.drop 1, setR d t ⟨s, 0, 0, l.getD 0 0⟩))
 else if k = 5 then (l, setR d t ⟨s, 0, 0, l.length⟩)
 else if k = 6 then (l, setR d t ⟨s, 0, 0, cap⟩)
 else (l, setR d t ⟨s, 0, 1, 0⟩)
theorem fifoApply_c (cap : Int) (l : List Int) (d : List Rst) (t s k ar v : Int) (hl : l.length ≤ 17592186044400) (hd : d.length ≤ 4398046511104) :
  Cd Tryz.prog 54 [.agg [i64 cap, .ln (l.map tI), .ln (d.map tR)], i64 t, i64 s, .agg [i64 k, i64 ar, i64 v, .any, .any]]
   (.agg [i64 cap, .sl 0 0 (appl false cap l d t s k v).1.length, .sl 1 0 d.length]) [.row 0 3 1 ((appl false cap l d t s k v).1.map tI), .row 0 42 4 ((appl false cap l d t s k v).2.map tR)] := by
 refine Cd.enter' Tryz.func54 rfl Tryz.ntmps54 rfl ?_
 repeat' (first | ((with_reducible refine kAL ?_); (first | (refine uK (copied_c _ _ _ ?zq0 ?zq1) ?_; (case zq0 => omega); (case zq1 => omega)) | (refine uI [3, 4] (told_n _ _ _ _ _ _ _ _ _ ?zq0 ?zq1) ?_; (case zq0 => simp); (case zq1 => simp)) | (refine uI [6, 4] (told_n _ _ _ _ _ _ _ _ _ ?zq0 ?zq1) ?_; (case zq0 => simp); (case zq1 => simp)) | refine A_lit rfl rfl 22 1 _ rfl ud22 inf3 (.cons rfl .nil) (els := [[_]]) rfl (by exact (rfl : _ = List.map tI [_])) rfl (Nat.ne_of_beq_eq_false rfl) (Nat.le_of_ble_eq_true rfl) (Nat.le_of_ble_eq_true rfl) (.push qL qN) ?_ | (refine uK (clone_I (l.drop 1) ?zq0) ?_; (case zq0 => simp; omega)) | refine uA ?_)) | refine uC ?_ | refine kcp rfl (fun hc => ?_) (fun hc => ?_) | fail)
 ·(refine Fin.mkv (rs := _) Tryz.results54 (.cons (.agg rfl rfl ud53 rfl inf53 (us := [_, _, _]) rfl rfl) .nil) [3, 4] (by decide) rfl ?_ ?_ ?_ <;> repeat' (skip; first | exact .nil | refine .cons rfl ?_ ?_ | refine .cons ?_ ?_ | refine .row ?_ | refine .rset ?_ | refine .box ?_ | exact .gone | refine .aggL ?_ | refine .tupL ?_ | refine .old rfl ?_ | refine .new rfl rfl rfl ?_ | exact .nl | exact .optr rfl | exact .nptr rfl rfl rfl | refine .t ?_ | exact .any _ | rfl))
  all_goals simp [appl, setR_len, *]
 ·(refine Fin.mkv (rs := _) Tryz.results54 (.cons (.agg rfl rfl ud53 rfl inf53 (us := [_, _, _]) rfl rfl) .nil) [3, 4] (by decide) rfl ?_ ?_ ?_ <;> repeat' (skip; first | exact .nil | refine .cons rfl ?_ ?_ | refine .cons ?_ ?_ | refine .row ?_ | refine .rset ?_ | refine .box ?_ | exact .gone | refine .aggL ?_ | refine .tupL ?_ | refine .old rfl ?_ | refine .new rfl rfl rfl ?_ | exact .nl | exact .optr rfl | exact .nptr rfl rfl rfl | refine .t ?_ | exact .any _ | rfl))
  all_goals simp [appl, setR_len, *]
 ·have hn : l = [] := List.eq_nil_of_length_eq_zero (by omega)
  subst hn
  (refine Fin.mkv (rs := _) Tryz.results54 (.cons (.agg rfl rfl ud53 rfl inf53 (us := [_, _, _]) rfl rfl) .nil) [3, 4] (by decide) rfl ?_ ?_ ?_ <;> repeat' (skip; first | exact .nil | refine .cons rfl ?_ ?_ | refine .cons ?_ ?_ | refine .row ?_ | refine .rset ?_ | refine .box ?_ | exact .gone | refine .aggL ?_ | refine .tupL ?_ | refine .old rfl ?_ | refine .new rfl rfl rfl ?_ | exact .nl | exact .optr rfl | exact .nptr rfl rfl rfl | refine .t ?_ | exact .any _ | rfl))
  all_goals simp [appl, setR_len, *]
 ·have hn : l ≠ [] := by rintro rfl; simp at hc
  (refine Fin.mkv (rs := _) Tryz.results54 (.cons (.agg rfl rfl ud53 rfl inf53 (us := [_, _, _]) rfl rfl) .nil) [6, 4] (by decide) rfl ?_ ?_ ?_ <;> repeat' (skip; first | exact .nil | refine .cons rfl ?_ ?_ | refine .cons ?_ ?_ | refine .row ?_ | refine .rset ?_ | refine .box ?_ | exact .gone | refine .aggL ?_ | refine .tupL ?_ | refine .old rfl ?_ | refine .new rfl rfl rfl ?_ | exact .nl | exact .optr rfl | exact .nptr rfl rfl rfl | refine .t ?_ | exact .any _ | rfl))
  all_goals simp [appl, setR_len, List.map_tail, *]
 ·(refine Fin.mkv (rs := _) Tryz.results54 (.cons (.agg rfl rfl ud53 rfl inf53 (us := [_, _, _]) rfl rfl) .nil) [3, 4] (by decide) rfl ?_ ?_ ?_ <;> repeat' (skip; first | exact .nil | refine .cons rfl ?_ ?_ | refine .cons ?_ ?_ | refine .row ?_ | refine .rset ?_ | refine .box ?_ | exact .gone | refine .aggL ?_ | refine .tupL ?_ | refine .old rfl ?_ | refine .new rfl rfl rfl ?_ | exact .nl | exact .optr rfl | exact .nptr rfl rfl rfl | refine .t ?_ | exact .any _ | rfl))
  all_goals simp [appl, setR_len, *]
 ·(refine Fin.mkv (rs := _) Tryz.results54 (.cons (.agg rfl rfl ud53 rfl inf53 (us := [_, _, _]) rfl rfl) .nil) [3, 4] (by decide) rfl ?_ ?_ ?_ <;> repeat' (skip; first | exact .nil | refine .cons rfl ?_ ?_ | refine .cons ?_ ?_ | refine .row ?_ | refine .rset ?_ | refine .box ?_ | exact .gone | refine .aggL ?_ | refine .tupL ?_ | refine .old rfl ?_ | refine .new rfl rfl rfl ?_ | exact .nl | exact .optr rfl | exact .nptr rfl rfl rfl | refine .t ?_ | exact .any _ | rfl))
  all_goals simp [appl, setR_len, *]
 ·(refine Fin.mkv (rs := _) Tryz.results54 (.cons (.agg rfl rfl ud53 rfl inf53 (us := [_, _, _]) rfl rfl) .nil) [3, 4] (by decide) rfl ?_ ?_ ?_ <;> repeat' (skip; first | exact .nil | refine .cons rfl ?_ ?_ | refine .cons ?_ ?_ | refine .row ?_ | refine .rset ?_ | refine .box ?_ | exact .gone | refine .aggL ?_ | refine .tupL ?_ | refine .old rfl ?_ | refine .new rfl rfl rfl ?_ | exact .nl | exact .optr rfl | exact .nptr rfl rfl rfl | refine .t ?_ | exact .any _ | rfl))
  all_goals simp [appl, setR_len, *]
end
section
theorem putH_done {c : DConf} {h : DHall} (f : fitsH c h = true) {t : Int} (ht : 0 ≤ t ∧ t < c.threads) : doneL c (putH c h) t = wordR (h.done.getD t.toNat default) := by
 obtain ⟨h0, h1, h2, h3, h4, ⟨h5, h6⟩, h7, h8⟩ := fitsH_iff.1 f
 have hs := chkC_shaped h0
 have hb := hs.h3 h1
 obtain ⟨j, rfl⟩ : ∃ j : Nat, t = j := ⟨t.toNat, by omega⟩
 have hl := putH_len f
 have hst : stateC c = 1 + c.chans * (1 + c.cap) + c.threads * 4 := by unfold stateC; rw [if_pos h0, if_pos h1]
 obtain ⟨n, hn⟩ : ∃ n : Nat, c.cap = n := ⟨c.cap.toNat, by omega⟩
 have e1 : ((h.chans.length * (c.cap.toNat + 1) : Nat) : Int) = c.chans * (1 + c.cap) := by rw [Int.natCast_mul, h3, hn, Int.toNat_natCast]; congr 1; omega
 rw [sizeC_H h0 h1] at hl
 have hlen : stateC c + (j : Int) < (putH c h).length := by rw [hl, hst]; omega
 have e2 : (stateC c + (j : Int)).toNat = h.chans.length * (c.cap.toNat + 1) + (h.waits.length * 4 + j) + 1 := by
  rw [hst, ← e1]
  generalize h.chans.length * (c.cap.toNat + 1) = A
  omega
 unfold doneL
 rw [if_pos ⟨h0, ht, hlen⟩, e2]
 unfold putH
 have hj : j < h.done.length := by omega
 rw [if_pos f, List.getD_eq_getElem?_getD, List.getElem?_cons_succ, List.getElem?_append_right (by rw [flat_len _ fun x _ => putC_len _ x]; omega), flat_len _ (fun x _ => putC_len _ x), Nat.add_sub_cancel_left,
  List.getElem?_append_right (by rw [flat_len _ fun w _ => putW3_len w]; omega), flat_len _ (fun w _ => putW3_len w), Nat.add_sub_cancel_left, List.getElem?_map, List.getElem?_eq_getElem hj, Int.toNat_natCast, List.getD_eq_getElem?_getD, List.getElem?_eq_getElem hj]
 rfl
theorem putX_done {c : DConf} {x : DCells} (f : fitsX c x = true) {t : Int} (ht : 0 ≤ t ∧ t < c.threads) : doneL c (putX c x) t = wordR (x.done.getD t.toNat default) := by
 obtain ⟨h0, h1, h2, ⟨h3, h4⟩, h5, h6⟩ := fitsX_iff.1 f
 have hs := chkC_shaped h0
 have hb := hs.h1 h1
 obtain ⟨j, rfl⟩ : ∃ j : Nat, t = j := ⟨t.toNat, by omega⟩
 have hl := putX_len f
 have hst : stateC c = 1 + c.cap := by unfold stateC; rw [if_pos h0, if_neg h1]
 rw [sizeC_X h0 h1] at hl
 have hlen : stateC c + (j : Int) < (putX c x).length := by rw [hl, hst]; omega
 have e2 : (stateC c + (j : Int)).toNat = c.cap.toNat + j + 1 := by rw [hst]; omega
 unfold doneL
 rw [if_pos ⟨h0, ht, hlen⟩, e2]
 unfold putX
 have hj : j < x.done.length := by omega
 rw [if_pos f, List.getD_eq_getElem?_getD, List.getElem?_cons_succ, List.getElem?_append_right (by rw [wpad_len]; omega), wpad_len, Nat.add_sub_cancel_left, List.getElem?_map, List.getElem?_eq_getElem hj, Int.toNat_natCast, List.getD_eq_getElem?_getD, List.getElem?_eq_getElem hj]
 rfl
def appX (lifo : Bool) (x : DCells) (t n : Int) (q : DReq) : DCells := ⟨x.cap, (appl lifo x.cap x.list x.done t n q.kind q.value).1, (appl lifo x.cap x.list x.done t n q.kind q.value).2⟩
theorem setR_mem {d : List Rst} {t : Int} {r x : Rst} (h : x ∈ setR d t r) : x ∈ d ∨ x = r := by
 unfold setR at h; split at h
 ·exact List.mem_or_eq_of_mem_set h
 ·exact .inl h
theorem setR_get {d : List Rst} {j : Nat} {r : Rst} (h : j < d.length) : (setR d j r).getD j default = r := by
 unfold setR; rw [if_pos ⟨by omega, by omega⟩, Int.toNat_natCast, List.getD_eq_getElem?_getD, List.getElem?_set_self h]; rfl
theorem appl_ex (lifo : Bool) (cap : Int) (l : List Int) (d : List Rst) (t s k v : Int) (hl : (l.length : Int) ≤ cap) (hc : 0 ≤ cap ∧ cap ≤ 16) (hL : ∀ y ∈ l, 0 ≤ y ∧ y ≤ 4294967295) (hv : 0 ≤ v ∧ v ≤ 4294967295) (hs : 0 ≤ s ∧ s ≤ 1048575) :
  (((appl lifo cap l d t s k v).1.length : Int) ≤ cap ∧ ∀ y ∈ (appl lifo cap l d t s k v).1, 0 ≤ y ∧ y ≤ 4294967295) ∧ ∃ r : Rst, (appl lifo cap l d t s k v).2 = setR d t r ∧ goodR r = true ∧ r.seq = s := by
 have hg : ∀ i, 0 ≤ l.getD i 0 ∧ l.getD i 0 < 4294967296 := fun i => by
  rw [List.getD_eq_getElem?_getD]
  cases hx : l[i]? with
  | none => decide
  | some a => have := hL a (List.mem_of_getElem? hx); simp only [Option.getD_some]; omega
 have good : ∀ e z : Int, (0 ≤ e ∧ e < 256) → (0 ≤ z ∧ z < 4294967296) → goodR ⟨s, 0, e, z⟩ = true := fun e z he hz => goodR_iff.2 ⟨hz, he, ⟨by dsimp only; decide, by dsimp only; decide⟩, hs⟩
 unfold appl
 split
 ·split
  ·exact ⟨⟨hl, hL⟩, _, rfl, good _ _ (by decide) (by decide), rfl⟩
  ·refine ⟨⟨by rw [List.length_append]; simp only [List.length_cons, List.length_nil]; omega, fun y hy => ?_⟩, _, rfl, good _ _ (by decide) (by decide), rfl⟩
   rcases List.mem_append.1 hy with hy | hy
   ·exact hL y hy
   ·rw [List.mem_singleton] at hy; subst hy; exact hv
 ·split
  ·split
   ·exact ⟨⟨hl, hL⟩, _, rfl, good _ _ (by decide) (by decide), rfl⟩
   ·split
    ·refine ⟨⟨by dsimp only; rw [List.length_take]; omega, fun y hy => hL y (List.mem_of_mem_take hy)⟩, _, rfl, good _ _ (by decide) (hg _), rfl⟩
    ·refine ⟨⟨by dsimp only; rw [List.length_drop]; omega, fun y hy => hL y (List.mem_of_mem_drop hy)⟩, _, rfl, good _ _ (by decide) (hg _), rfl⟩
  ·split
   ·exact ⟨⟨hl, hL⟩, _, rfl, good _ _ (by decide) (by omega), rfl⟩
   ·split
    ·exact ⟨⟨hl, hL⟩, _, rfl, good _ _ (by decide) (by omega), rfl⟩
    ·exact ⟨⟨hl, hL⟩, _, rfl, good _ _ (by decide) (by decide), rfl⟩
theorem fitsX_apply {c : DConf} {x : DCells} {lifo : Bool} {t n : Int} {q : DReq} (f : fitsX c x = true) (hq : fitQ q = true) (hn : 0 ≤ n ∧ n ≤ 1048575) : fitsX c (appX lifo x t n q) = true := by
 obtain ⟨h0, h1, h2, ⟨h3, h4⟩, h5, h6⟩ := fitsX_iff.1 f
 have hs := chkC_shaped h0
 have hb := hs.h1 h1
 obtain ⟨-, -, q3, -, -⟩ := fitQ_iff.1 hq
 obtain ⟨g1, r, g2, g3, g4⟩ := appl_ex lifo x.cap x.list x.done t n q.kind q.value (by omega) (by omega) h4 q3 hn
 rw [← h2] at h3
 unfold appX
 refine fitsX_iff.2 ⟨h0, h1, h2, by rw [← h2]; exact g1, by dsimp only; rw [g2, setR_len]; exact h5, fun y hy => ?_⟩
 dsimp only at hy
 rw [g2] at hy
 rcases setR_mem hy with hy | rfl
 ·exact h6 y hy
 ·exact g3
def newX (c : DConf) : DCells := ⟨c.cap, [], List.replicate (thN c) ⟨0, 0, 0, 0⟩⟩
theorem fitsX_start {c : DConf} (k : chkC c = true) (k3 : c.kind ≠ 3) : fitsX c (newX c) = true := by
 have hs := chkC_shaped k
 have hb := hs.h1 k3
 have ht : ((thN c : Nat) : Int) = c.threads := by have := hs.t0; have := hs.t1; unfold thN; omega
 refine fitsX_iff.2 ⟨k, k3, rfl, ⟨by dsimp only [newX, List.length_nil]; omega, fun y hy => by cases hy⟩, by dsimp only [newX]; rw [List.length_replicate]; exact ht, fun r hr => ?_⟩
 rw [List.eq_of_mem_replicate hr]; decide
theorem putX_new {c : DConf} (k : chkC c = true) (k3 : c.kind ≠ 3) : putX c (newX c) = List.replicate (sizeC c).toNat 0 := by
 have hs := chkC_shaped k
 have hb := hs.h1 k3
 have ht : ((thN c : Nat) : Int) = c.threads := by have := hs.t0; have := hs.t1; unfold thN; omega
 unfold putX
 rw [if_pos (fitsX_start k k3), sizeC_X k k3]
 have e : (1 + c.cap + c.threads).toNat = c.cap.toNat + thN c + 1 := by omega
 rw [e]
 have w : ∀ n, wpad [] n = List.replicate n 0 := fun n => by
  refine List.eq_replicate_iff.2 ⟨wpad_len _ _, fun y hy => ?_⟩
  obtain ⟨i, _, rfl⟩ := List.mem_map.1 hy
  rfl
 unfold newX
 dsimp only
 rw [w, List.map_replicate, show wordR ⟨0, 0, 0, 0⟩ = 0 by decide, List.replicate_append_replicate, List.replicate_succ]
 rfl
def startO (c : DConf) : List Int := if chkC c then (if c.kind = 3 then putH c (startH c) else putX c (newX c)) else []
def mayO (c : DConf) (t n : Int) (q : DReq) : Bool := decide (0 ≤ t ∧ t < c.threads) && decide (0 ≤ n ∧ n ≤ 1048575) && fitQ q
def applyO (c : DConf) (l : List Int) (t n : Int) (q : DReq) : List Int :=
 if mayO c t n q then
  if c.kind = 3 then (if mayH c l then putH c (applyH c (readH c l) t n q) else l)
  else if mayX c l then putX c (appX (decide (c.kind = 2)) (readX c l) t n q) else l
 else l
def runO (c : DConf) (ops : List DOp) : Nat → List Int
 | 0 => startO c
 | k + 1 => applyO c (runO c ops k) (ops.getD k default).thread (ops.getD k default).seq (ops.getD k default).req
theorem runO_next {c : DConf} {ops : List DOp} {k : Nat} {x : DOp} (hx : ops[k]? = some x) : runO c ops (k + 1) = applyO c (runO c ops k) x.thread x.seq x.req := by
 rw [runO, getD_of hx]
structure Isw (c : DConf) (l : List Int) : Prop where
 no : chkC c = false → l = []
 h : chkC c = true → c.kind = 3 → mayH c l = true
 x : chkC c = true → c.kind ≠ 3 → mayX c l = true
theorem startO_is (c : DConf) : Isw c (startO c) := by
 unfold startO
 refine ⟨fun k => by rw [if_neg (by simp [k])], fun k k3 => ?_, fun k k3 => ?_⟩
 ·rw [if_pos k, if_pos k3, mayH_put, fitsH_start k k3]
 ·rw [if_pos k, if_neg k3, mayX_put, fitsX_start k k3]
theorem mayH_none {c : DConf} {l : List Int} (k : chkC c = false) : mayH c l = false := by unfold mayH; rw [k]; rfl
theorem mayX_none {c : DConf} {l : List Int} (k : chkC c = false) : mayX c l = false := by unfold mayX; rw [k]; rfl
theorem applyO_is {c : DConf} {l : List Int} (s : Isw c l) (t n : Int) (q : DReq) : Isw c (applyO c l t n q) := by
 unfold applyO
 split
 ·rename_i hm
  unfold mayO at hm
  simp only [Bool.and_eq_true, decide_eq_true_eq] at hm
  obtain ⟨⟨m1, m2⟩, m3⟩ := hm
  split
  ·rename_i k3
   split
   ·rename_i hr
    obtain ⟨f, -⟩ := mayH_fits hr
    have k := (fitsH_iff.1 f).1
    refine ⟨fun e => (by rw [k] at e; cases e), fun _ _ => ?_, fun _ e => absurd k3 e⟩
    rw [mayH_put, fitsH_apply f m3 m2]
   ·exact s
  ·rename_i k3
   split
   ·rename_i hr
    obtain ⟨f, -⟩ := mayX_fits hr
    have k := (fitsX_iff.1 f).1
    refine ⟨fun e => (by rw [k] at e; cases e), fun _ e => absurd e k3, fun _ _ => ?_⟩
    rw [mayX_put, fitsX_apply f m3 m2]
   ·exact s
 ·exact s
theorem Isw.len {c : DConf} {l : List Int} (s : Isw c l) : (l.length : Int) = sizeC c := by
 cases k : chkC c
 ·rw [s.no k]; unfold sizeC; rw [if_neg (by simp [k])]; rfl
 ·by_cases k3 : c.kind = 3
  ·obtain ⟨f, e⟩ := mayH_fits (s.h k k3)
   have := putH_len f
   rwa [e] at this
  ·obtain ⟨f, e⟩ := mayX_fits (s.x k k3)
   have := putX_len f
   rwa [e] at this
theorem sizeC_pos {c : DConf} (k : chkC c = true) : 0 < sizeC c := by
 have hs := chkC_shaped k
 have h1 := hs.t0
 by_cases k3 : c.kind = 3
 ·have hb := hs.h3 k3
  rw [sizeC_H k k3]
  have h2 : 0 ≤ c.chans * (1 + c.cap) := Int.mul_nonneg (by omega) (by omega)
  omega
 ·have hb := hs.h1 k3
  rw [sizeC_X k k3]; omega
theorem Isw.may {c : DConf} {l : List Int} (s : Isw c l) : (mayH c l || mayX c l) = decide (0 < l.length) := by
 cases k : chkC c
 ·rw [s.no k, mayH_none k, mayX_none k]; rfl
 ·have h1 := s.len
  have h2 := sizeC_pos k
  rw [decide_eq_true (by omega)]
  by_cases k3 : c.kind = 3
  ·rw [s.h k k3]; rfl
  ·rw [s.x k k3, Bool.or_true]
theorem startO_U (c : DConf) : okU (startO c) := by
 unfold startO
 split
 ·split
  ·exact putH_U _ _
  ·exact putX_U _ _
 ·intro w hw; cases hw
theorem applyO_U {c : DConf} {l : List Int} (h : okU l) (t n : Int) (q : DReq) : okU (applyO c l t n q) := by
 unfold applyO
 split
 ·split
  ·split
   ·exact putH_U _ _
   ·exact h
  ·split
   ·exact putX_U _ _
   ·exact h
 ·exact h
theorem runO_all (c : DConf) (ops : List DOp) : ∀ k, Isw c (runO c ops k) ∧ okU (runO c ops k)
 | 0 => ⟨startO_is c, startO_U c⟩
 | k + 1 => by
  obtain ⟨a, b⟩ := runO_all c ops k
  exact ⟨applyO_is a _ _ _, applyO_U b _ _ _⟩
theorem doneL_U {c : DConf} {l : List Int} (h : okU l) (t : Int) : 0 ≤ doneL c l t ∧ doneL c l t ≤ 18446744073709551615 := by
 unfold doneL
 split
 ·rw [List.getD_eq_getElem?_getD]
  cases hx : l[(stateC c + t).toNat]? with
  | none => decide
  | some a => exact h a (List.mem_of_getElem? hx)
 ·decide
theorem applyO_says {c : DConf} {l : List Int} (s : Isw c l) {t n : Int} {q : DReq} (hm : mayO c t n q = true) (hl : 0 < (applyO c l t n q).length) : (readR (doneL c (applyO c l t n q) t)).seq = n := by
 have k : chkC c = true := by
  cases k : chkC c
  ·rw [(applyO_is s t n q).no k] at hl; simp at hl
  ·rfl
 have hm0 := hm
 unfold mayO at hm
 simp only [Bool.and_eq_true, decide_eq_true_eq] at hm
 obtain ⟨⟨m1, m2⟩, m3⟩ := hm
 obtain ⟨j, rfl⟩ : ∃ j : Nat, t = j := ⟨t.toNat, by omega⟩
 unfold applyO
 rw [if_pos hm0]
 by_cases k3 : c.kind = 3
 ·have hr := s.h k k3
  obtain ⟨f, -⟩ := mayH_fits hr
  have f2 := fitsH_apply (t := (j : Int)) f m3 m2
  obtain ⟨-, -, -, -, -, ⟨f5, f6⟩, -⟩ := fitsH_iff.1 f2
  rw [if_pos k3, if_pos hr, putH_done f2 m1, Int.toNat_natCast]
  have hj : j < (applyH c (readH c l) j n q).done.length := by omega
  rw [readR_word (f6 _ (getD_mem hj))]
  have hd : j < (callH c (readH c l) j n q).1.done.length := by unfold applyH at hj; rwa [noteL_len] at hj
  unfold applyH
  dsimp only
  rw [List.getD_eq_getElem?_getD, noteL_get hd]
  rfl
 ·have hr := s.x k k3
  obtain ⟨f, -⟩ := mayX_fits hr
  have f2 := fitsX_apply (lifo := decide (c.kind = 2)) (t := (j : Int)) f m3 m2
  obtain ⟨-, -, -, -, f5, f6⟩ := fitsX_iff.1 f2
  rw [if_neg k3, if_pos hr, putX_done f2 m1, Int.toNat_natCast]
  have hj : j < (appX (decide (c.kind = 2)) (readX c l) j n q).done.length := by omega
  rw [readR_word (f6 _ (getD_mem hj))]
  obtain ⟨h0, h1, h2, ⟨h3, h4⟩, h5, h6⟩ := fitsX_iff.1 f
  have hb := (chkC_shaped k).h1 k3
  obtain ⟨-, r, g2, g3, g4⟩ := appl_ex (decide (c.kind = 2)) (readX c l).cap (readX c l).list (readX c l).done j n q.kind q.value (by omega) (by omega) h4 (fitQ_iff.1 m3).2.2.1 m2
  unfold appX at hj ⊢
  dsimp only at hj ⊢
  rw [g2] at hj ⊢
  rw [setR_len] at hj
  rw [setR_get hj]
  exact g4
end
section
attribute [local irreducible] AL AW RG Fin C Cd Cio thenQ blockQ retQ
set_option maxRecDepth 100000
theorem hplace_c (h : Int) (h1 : -9223372036854775808 ≤ h ∧ h ≤ 9223372036854775807) : Cd Tryz.prog 155 [i64 h] (.tup [i64 (plP h), i64 (plG h), bo (plOk h)]) [] := by
 by_cases hk : 8 ≤ h ∧ h ≤ 32767
 ·rw [(pl_yes hk.1 hk.2).1, (pl_yes hk.1 hk.2).2.1, (pl_yes hk.1 hk.2).2.2]
  refine Cd.enter' Tryz.func155 rfl Tryz.ntmps155 rfl ?_
  repeat' (first | refine uA ?_ | refine uC ?_ | fail)
  all_goals first | (exfalso; omega) | (exact Fin.q Tryz.results155 (.cons (.tmp rfl) (.cons (.tmp rfl) (.cons (.tmp rfl) .nil))) [])
 ·rw [(pl_no hk).1, (pl_no hk).2.1, (pl_no hk).2.2]
  refine Cd.enter' Tryz.func155 rfl Tryz.ntmps155 rfl ?_
  repeat' (first | ((with_reducible refine kAL ?_); (first | refine uA ?_ | refine uS 7 (fun hb => ?_) (fun hb => ?_))) | refine uC ?_ | fail)
  all_goals first | (exfalso; omega) | (exact Fin.q Tryz.results155 (.cons (.tmp rfl) (.cons (.tmp rfl) (.cons (.tmp rfl) .nil))) [])
theorem hplaceR_c (h : Int) (h1 : -9223372036854775808 ≤ h ∧ h ≤ 9223372036854775807) : Cd Tryz.prog 146 [i64 h] (.tup [i64 (plP h), i64 (plG h), bo (plOk h)]) [] := by
 by_cases hk : 8 ≤ h ∧ h ≤ 32767
 ·rw [(pl_yes hk.1 hk.2).1, (pl_yes hk.1 hk.2).2.1, (pl_yes hk.1 hk.2).2.2]
  have e1 : h - h / 8 * 8 = h % 8 := by omega
  refine Cd.enter' Tryz.func146 rfl Tryz.ntmps146 rfl ?_
  repeat' (first | refine uA ?_ | refine uC ?_ | fail)
  all_goals first | (exfalso; omega) | (refine Fin.q Tryz.results146 (.cons (.tmp rfl) (.cons (.tmp rfl) (.cons (.tmp rfl) .nil))) [] (hr := (.tupL (.cons (.t ?_) (.cons (.t ?_) (.cons (.t ?_) .nil))))))
  all_goals first | (rw [e1]; done) | rfl | skip
 ·rw [(pl_no hk).1, (pl_no hk).2.1, (pl_no hk).2.2]
  refine Cd.enter' Tryz.func146 rfl Tryz.ntmps146 rfl ?_
  repeat' (first | ((with_reducible refine kAL ?_); (first | refine uA ?_ | refine uS 7 (fun hb => ?_) (fun hb => ?_))) | refine uC ?_ | fail)
  all_goals first | (exfalso; omega) | (exact Fin.q Tryz.results146 (.cons (.tmp rfl) (.cons (.tmp rfl) (.cons (.tmp rfl) .nil))) [])
end
end Go.Proofs.YtbpgopomninedaaGreat
