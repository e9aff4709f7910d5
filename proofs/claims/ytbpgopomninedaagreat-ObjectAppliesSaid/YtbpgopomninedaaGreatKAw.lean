/- Joined: XTPutH, XTFitsR. -/
import Derived.Test.YtbpgopomninedaaGreatKAg
import Derived.Test.YtbpgopomninedaaGreatKAp
import Derived.Test.YtbpgopomninedaaGreatKAq
import Derived.Test.YtbpgopomninedaaGreatKAd
namespace Go.Proofs.YtbpgopomninedaaGreat
open Go.RowKit
set_option linter.unusedVariables false
set_option linter.unusedSimpArgs false
set_option linter.unnecessarySimpa false
set_option maxRecDepth 100000
set_option maxHeartbeats 64000000
section
attribute [local irreducible] AL AW RG Fin C Cd Cio thenQ blockQ retQ
set_option maxRecDepth 100000
def putA (c : DConf) (h : DHall) (i : Nat) : List Int := h.ticket :: (h.chans.take i).flatMap (putC c.cap)
def putB (c : DConf) (h : DHall) (i : Nat) : List Int := h.ticket :: (h.chans.flatMap (putC c.cap) ++ (h.waits.take i).flatMap putW3)
theorem putA_len {c : DConf} {h : DHall} {i : Nat} (hi : i ≤ h.chans.length) : (putA c h i).length = 1 + i * (c.cap.toNat + 1) := by
 unfold putA; rw [List.length_cons, flat_len _ fun x _ => putC_len _ x, List.length_take]; rw [show min i h.chans.length = i by omega]; omega
theorem putB_len {c : DConf} {h : DHall} {i : Nat} (hi : i ≤ h.waits.length) : (putB c h i).length = 1 + h.chans.length * (c.cap.toNat + 1) + i * 4 := by
 unfold putB; rw [List.length_cons, List.length_append, flat_len _ fun x _ => putC_len _ x, flat_len _ fun x _ => putW3_len x, List.length_take]; rw [show min i h.waits.length = i by omega]; omega
theorem putA_next {c : DConf} {h : DHall} {i : Nat} {a : DChan} (ha : h.chans[i]? = some a) : putA c h (i + 1) = (putA c h i ++ [headC a]) ++ wpad a.buf c.cap.toNat := by
 unfold putA; rw [List.take_add_one, ha]; simp [putC]
theorem putA_end (c : DConf) (h : DHall) : putA c h h.chans.length = putB c h 0 := by unfold putA putB; simp
theorem putB_next {c : DConf} {h : DHall} {i : Nat} {a : DWait} (ha : h.waits[i]? = some a) : putB c h (i + 1) = (putB c h i ++ [headW a]) ++ wpad (a.cases.map wordK) 3 := by
 unfold putB; rw [List.take_add_one, ha]; simp [putW3]
theorem putB_end {c : DConf} {h : DHall} (hf : fitsH c h = true) : putB c h h.waits.length ++ h.done.map wordR = putH c h := by unfold putB putH; rw [if_pos hf]; simp
theorem callW_mid (l : List DCase) : List.take (4 - 1) (List.drop 1 (callW ⟨3, 0, 0, false, l⟩ 0)) = wpad (l.map wordK) 3 := by
 show List.take 3 (wpad (l.map wordK) 3 ++ [0]) = _
 have := List.take_left (l₁ := wpad (l.map wordK) 3) (l₂ := [(0 : Int)])
 rwa [wpad_len] at this
theorem putH_c (c : DConf) (h : DHall) (hs : c.start.length ≤ 1152921504606846976) (hh : okH h) : Cd Tryz.prog 28 [aCf c, aHl h] (.t (.lst ((putH c h).map tU))) [] := by
 have c1 := fitsH_c c h hs hh
 have g1 : (h.chans.map tCh).length = h.chans.length := List.length_map _
 have g2 : (h.waits.map tWt).length = h.waits.length := List.length_map _
 cases hf : fitsH c h
 ·rw [hf] at c1
  rw [show putH c h = [] by unfold putH; rw [hf]; rfl]
  refine Cd.enter' Tryz.func28 rfl Tryz.ntmps28 rfl ?_
  repeat' (first | ((with_reducible refine kAL ?_); (first | (refine zkD 4 rfl ?_; refine uA ?_; (try refine AL.wk (Wk.nz 4 rfl (by exact .nlt)) ?_)) | refine uK (c1) ?_ | refine uA ?_)) | refine uC ?_ | fail)
  all_goals first | (exfalso; omega) | (exact Fin.q Tryz.results28 (.cons (.tmp rfl) .nil) [])
 ·rw [hf] at c1
  obtain ⟨h0, h1, h2, h3, h4, ⟨h5, h6⟩, h7, h8⟩ := fitsH_iff.1 hf
  have hsh := chkC_shaped h0
  have hb := hsh.h3 h1
  have ht1 := hsh.t1
  have hcap : c.cap = (c.cap.toNat : Int) := by omega
  have hmul : ∀ i, i ≤ h.chans.length → i * (c.cap.toNat + 1) ≤ 72 := fun i hi => Nat.le_trans (Nat.mul_le_mul (show i ≤ 8 by omega) (show c.cap.toNat + 1 ≤ 9 by omega)) (by decide)
  rw [← putB_end hf]
  refine Cd.enter' Tryz.func28 rfl Tryz.ntmps28 rfl ?_
  repeat' (first | ((with_reducible refine kAL ?_); (first | refine uK (c1) ?_ | refine A_lit rfl rfl 25 1 _ rfl ud25 inf31 (.cons rfl .nil) (els := [[_]]) rfl (by exact (rfl : _ = List.map tU [_])) rfl (Nat.ne_of_beq_eq_false rfl) (Nat.le_of_ble_eq_true rfl) (Nat.le_of_ble_eq_true rfl) (.push qL qN) ?_ | refine uA ?_)) | refine uC ?_ | fail)
  all_goals first | (exfalso; omega) | skip
  refine AW.loopP (fun (x : Nat × Nat × Nat) => x.1 ≤ h.chans.length ∧ x.2.2 = (putA c h x.1).length) (fun (x : Nat × Nat × Nat) => (pu (pu (pu (pu (pu (pu (fun _ => .any) 2 (.ptr 0 0)) 3 (.ptr 1 0)) 5 (.sl 2 x.2.1 x.2.2)) 20 (.ln (h.chans.map tCh))) 21 (i64 (h.chans.map tCh).length)) 22 (i64 x.1))) (fun (x : Nat × Nat × Nat) => [.box 24 [i64 c.kind, i64 c.threads, i64 c.chans, i64 c.cap, i64 c.nodes, i64 c.retire, i64 c.patience, i64 c.tags, i64 c.seqs, i64 c.gens, .ln (c.start.map tI)], .box 49 [i64 h.ticket, .ln (h.chans.map tCh), .ln (h.waits.map tWt), .ln (h.done.map tR)], .row x.2.1 31 1 ((putA c h x.1).map tU)]) (fun (x : Nat × Nat × Nat) => h.chans.length - x.1) ((0, 0, 1)) ?_ ?_ ?_
  ·exact ⟨Nat.zero_le _, rfl⟩
  ·exact Wk.cq 3
  ·rintro ⟨i, k, m⟩ ⟨l2, l3⟩
   dsimp only at l2 l3 ⊢
   have hL := putA_len (c := c) l2
   have hM := hmul i l2
   by_cases hi : i < h.chans.length
   ·obtain ⟨a, ha⟩ : ∃ a, h.chans[i]? = some a := ⟨_, List.getElem?_eq_getElem hi⟩
    have hOK := h7 a (List.mem_of_getElem? ha)
    have hO := chanOK_iff.1 hOK
    have cH := head_c a c.cap (by omega) hOK
    have cR := crow_n a.buf c.cap c.cap.toNat (k + 1) (m + 1) (putA c h i ++ [headC a]) hcap (by simp; omega) hO.2.2.1.2 (by omega) (by simp; omega)
    have hs := putA_next (c := c) ha
    repeat' (first | refine uA ?_ | ((with_reducible refine kRG ?_); (first | refine uQ (cH) 0 ?_ | refine R_lit (N := 4) rfl rfl 25 1 _ rfl ud25 inf31 (.cons rfl .nil) (els := [[_]]) rfl (by exact (rfl : _ = List.map tU [_])) rfl (Nat.ne_of_beq_eq_false rfl) (Nat.le_of_ble_eq_true rfl) (Nat.le_of_ble_eq_true rfl) rfl qN ?_ | refine uJ [2] (cR) ?_ | refine uR ?_)) | refine uC ?_ | refine AW.drawU (id := 7) mixed 2 qR ?_ | fail)
    all_goals first | (exfalso; omega) | skip
    refine ⟨(i + 1, k + 1 + c.cap.toNat, m + 1 + c.cap.toNat), ⟨by dsimp only; omega, by dsimp only; rw [hs]; simp [wpad_len]; omega⟩, by dsimp only; omega, ?_⟩
    rw [hs]
    exact Wk.cq 3
   ·obtain rfl : i = h.chans.length := by omega
    rw [putA_end] at l3 ⊢
    repeat' (first | refine uA ?_ | refine uC ?_ | fail)
    all_goals first | (exfalso; omega) | skip
    refine AW.loopP (fun (x : Nat × Nat × Nat) => x.1 ≤ h.waits.length ∧ x.2.2 = (putB c h x.1).length) (fun (x : Nat × Nat × Nat) => (pu (pu (pu (pu (pu (pu (fun _ => .any) 2 (.ptr 0 0)) 3 (.ptr 1 0)) 5 (.sl 2 x.2.1 x.2.2)) 38 (.ln (h.waits.map tWt))) 39 (i64 (h.waits.map tWt).length)) 40 (i64 x.1))) (fun (x : Nat × Nat × Nat) => [.box 24 [i64 c.kind, i64 c.threads, i64 c.chans, i64 c.cap, i64 c.nodes, i64 c.retire, i64 c.patience, i64 c.tags, i64 c.seqs, i64 c.gens, .ln (c.start.map tI)], .box 49 [i64 h.ticket, .ln (h.chans.map tCh), .ln (h.waits.map tWt), .ln (h.done.map tR)], .row x.2.1 31 1 ((putB c h x.1).map tU)]) (fun (x : Nat × Nat × Nat) => h.waits.length - x.1) ((0, k, m)) ?_ ?_ ?_
    ·exact ⟨Nat.zero_le _, l3⟩
    ·exact Wk.cq 3
    ·rintro ⟨i, k, m⟩ ⟨l2, l3⟩
     dsimp only at l2 l3 ⊢
     have hL := putB_len (c := c) l2
     by_cases hi : i < h.waits.length
     ·obtain ⟨a, ha⟩ : ∃ a, h.waits[i]? = some a := ⟨_, List.getElem?_eq_getElem hi⟩
      have hOK := h8 a (List.mem_of_getElem? ha)
      obtain ⟨q1, q2, q3, q4⟩ := waitOK_b hOK
      have g3 : (a.cases.map tCs).length = a.cases.length := List.length_map _
      have hq : fitQ ⟨3, 0, 0, false, a.cases⟩ = true := by rw [fitQ_sel, decide_eq_true q3, List.all_eq_true.2 q4]; rfl
      have cC := pCall_c ⟨3, 0, 0, false, a.cases⟩ 0 hq rfl (by decide)
      have hbt := bitI_b a.on
      have cFl := flag_c a.on
      have hw : headW a = bitI a.on + ((a.cases.map tCs).length : Int) * 2 + a.seq * 16 + a.ticket * 4294967296 := by unfold headW; omega
      have hs := putB_next (c := c) ha
      rw [← callW_mid, hw] at hs
      have hl3 : (List.take (4 - 1) (List.drop 1 (callW ⟨3, 0, 0, false, a.cases⟩ 0))).length = 3 := by rw [callW_mid, wpad_len]
      have hL1 : (putB c h i ++ [bitI a.on + ((a.cases.map tCs).length : Int) * 2 + a.seq * 16 + a.ticket * 4294967296]).length = (putB c h i).length + 1 := by simp
      have hlc : (callW ⟨3, 0, 0, false, a.cases⟩ 0).length = 5 := by simp [callW, wpad_len]
      have hlt : ((callW ⟨3, 0, 0, false, a.cases⟩ 0).map tU).length = 5 := by rw [List.length_map, hlc]
      repeat' (first | ((with_reducible refine kAL ?_); (first | refine uK (cC) ?_ | refine uA ?_)) | ((with_reducible refine kRG ?_); (first | refine R_lit (N := 4) rfl rfl 25 1 _ rfl ud25 inf31 (.cons rfl .nil) (els := [[_]]) rfl (by exact (rfl : _ = List.map tU [_])) rfl (Nat.ne_of_beq_eq_false rfl) (Nat.le_of_ble_eq_true rfl) (Nat.le_of_ble_eq_true rfl) rfl qN ?_ | refine uQ (cFl) 0 ?_ | refine R_shl rfl rfl 31 97 _ _ rfl rfl rfl (by decide) (shl_lit (m := 2) rfl (by exact wu)) ?_ | refine R_bits rfl rfl .or 31 31 _ _ rfl rfl rfl rfl (or_sum' 1 (M := 2) rfl (by omega) (by omega) (by omega) (by omega) (by omega) (by omega)) ?_ | refine R_bits rfl rfl .or 31 31 _ _ rfl rfl rfl rfl (or_sum' 4 (M := 16) rfl (by omega) (by omega) (by omega) (by omega) (by omega) (by omega)) ?_ | refine R_bits rfl rfl .or 31 31 _ _ rfl rfl rfl rfl (or_sum' 32 (M := 4294967296) rfl (by omega) (by omega) (by omega) (by omega) (by omega) (by omega)) ?_ | refine R_shl rfl rfl 31 97 _ _ rfl rfl rfl (by decide) (shl_lit (m := 16) rfl (by exact wu)) ?_ | refine R_shl rfl rfl 31 97 _ _ rfl rfl rfl (by decide) (shl_lit (m := 4294967296) rfl (by exact wu)) ?_ | refine uR ?_)) | refine uC ?_ | refine AW.drawU (id := 12) mixed 2 qR ?_ | fail)
      all_goals first | (exfalso; omega) | skip
      refine ⟨(i + 1, k + 1 + 1, m + 1 + (List.take (4 - 1) (List.drop 1 (callW ⟨3, 0, 0, false, a.cases⟩ 0))).length), ⟨by dsimp only; omega, by dsimp only; rw [hs]; simp; omega⟩, by dsimp only; omega, ?_⟩
      rw [hs]
      exact Wk.cq 3
     ·obtain rfl : i = h.waits.length := by omega
      have cR := cresults_c h.done k m (putB c h h.waits.length) l3 (by omega) (by have := hmul _ (Nat.le_refl _); omega)
      repeat' (first | ((with_reducible refine kAL ?_); (first | (refine zkD 4 rfl ?_; refine uA ?_; (try refine AL.wk (Wk.freeze 2 rfl 4 rfl (by exact .all (by (simp; omega))) qN) ?_)) | refine uI [2] (cR) ?_ | refine uA ?_)) | refine uC ?_ | fail)
      all_goals first | (exfalso; omega) | (exact Fin.q Tryz.results28 (.cons (.tmp rfl) .nil) [])
def oneI (v : Int) : List Int := [v]
theorem putX_c (c : DConf) (x : DCells) (hs : c.start.length ≤ 1152921504606846976) (k1 : x.list.length ≤ 1152921504606846976) (k2 : x.done.length ≤ 1152921504606846976) : Cd Tryz.prog 39 [aCf c, aCl x] (.t (.lst ((putX c x).map tU))) [] := by
 have c1 := fitsX_c c x hs k1 k2
 have g1 : (x.list.map tI).length = x.list.length := List.length_map _
 cases hf : fitsX c x
 ·rw [hf] at c1
  rw [show putX c x = [] by unfold putX; rw [hf]; rfl]
  refine Cd.enter' Tryz.func39 rfl Tryz.ntmps39 rfl ?_
  repeat' (first | ((with_reducible refine kAL ?_); (first | (refine zkD 4 rfl ?_; refine uA ?_; (try refine AL.wk (Wk.nz 4 rfl (by exact .nlt)) ?_)) | refine uK (c1) ?_ | refine uA ?_)) | refine uC ?_ | fail)
  all_goals first | (exfalso; omega) | (exact Fin.q Tryz.results39 (.cons (.tmp rfl) .nil) [])
 ·rw [hf] at c1
  obtain ⟨h0, h1, h2, ⟨h3, h4⟩, h5, h6⟩ := fitsX_iff.1 hf
  have hsh := chkC_shaped h0
  have hb := hsh.h1 h1
  have ht1 := hsh.t1
  have hcap : c.cap = (c.cap.toNat : Int) := by omega
  have cR := crow_n x.list c.cap c.cap.toNat 0 1 (oneI ((x.list.map tI).length : Int)) hcap rfl h4 (by omega) (by simp [oneI]; omega)
  have cD := cresults_c x.done c.cap.toNat (1 + c.cap.toNat) ((oneI ((x.list.map tI).length : Int)) ++ wpad x.list c.cap.toNat) (by simp [wpad_len, oneI]; omega) (by omega) (by simp [wpad_len, oneI]; omega)
  have e : putX c x = ((oneI ((x.list.map tI).length : Int)) ++ wpad x.list c.cap.toNat) ++ x.done.map wordR := by unfold putX oneI; rw [if_pos hf, g1]; simp
  have h0 : Cd Tryz.prog 39 [aCf c, aCl x] (.sl 0 0 (1 + c.cap.toNat + x.done.length)) [.row 0 31 1 ((putX c x).map tU)] := by
   rw [e]
   refine Cd.enter' Tryz.func39 rfl Tryz.ntmps39 rfl ?_
   repeat' (first | ((with_reducible refine kAL ?_); (first | refine uK (c1) ?_ | refine uA ?_)) | ((with_reducible refine kRG ?_); (first | refine R_lit (N := 2) rfl rfl 25 1 _ rfl ud25 inf31 (.cons rfl .nil) (els := [[_]]) rfl (by exact (rfl : _ = List.map tU [_])) rfl (Nat.ne_of_beq_eq_false rfl) (Nat.le_of_ble_eq_true rfl) (Nat.le_of_ble_eq_true rfl) rfl qN ?_ | refine uJ [2] (cR) ?_ | refine uJ [2] (cD) ?_ | refine uR ?_)) | refine uC ?_ | refine AW.drawU (id := 3) mixed 1 qR ?_ | fail)
   all_goals first | (exfalso; omega) | (exact Fin.q Tryz.results39 (.cons (.tmp rfl) .nil) [2])
  have hln : (putX c x).length = 1 + c.cap.toNat + x.done.length := by rw [e]; simp [oneI, wpad_len]; omega
  have h0' := Cd.frz1 h0 0 rfl (by repeat' (first | exact FzL.nil | apply FzL.cons | exact FzR.nlt | exact FzR.all (by first | rfl | (simp <;> fail) | (simp; omega)) | exact FzR.sl (by first | exact Nat.le_refl _ | (simp <;> fail) | (simp; omega)) | apply FzR.aggL | exact FzR.same _)) rfl; exact Cd.drop h0' rfl
end
section
attribute [local irreducible] AL AW RG Fin C Cd Cio thenQ blockQ retQ
set_option maxRecDepth 100000
theorem rvalues_c (l : List Int) (m : Int) (hl : l.length ≤ 1152921504606846976) : Cd Tryz.prog 111 [.ln (l.map tI), i64 m] (bo (valsOK l m)) [] := by
 have h1 : (l.map tI).length = l.length := List.length_map _
 refine Cd.enter' Tryz.func111 rfl Tryz.ntmps111 rfl ?_
 repeat' (first | refine uA ?_ | refine uC ?_ | fail)
 refine AW.loopP (fun (i : Nat) => i ≤ l.length ∧ ∀ j, j < i → ∀ a, l[j]? = some a → inI a 0 4294967295 = true) (fun (i : Nat) => (pu (pu (pu (pu (pu (fun _ => .any) 0 (.ln (l.map tI))) 1 (i64 m)) 7 (.ln (l.map tI))) 8 (i64 (l.map tI).length)) 9 (i64 i))) (fun (i : Nat) => []) (fun (i : Nat) => l.length - i) (0) ?_ ?_ ?_
 ·exact ⟨Nat.zero_le _, fun j hj => by omega⟩
 ·exact Wk.cq 0
 ·rintro i ⟨h2, h3⟩
  by_cases hi : i < l.length
  ·obtain ⟨a, ha⟩ : ∃ a, l[i]? = some a := ⟨_, List.getElem?_eq_getElem hi⟩
   have cA := inR_c a 0 4294967295
   cases hv : inI a 0 4294967295
   ·rw [hv] at cA
    have : valsOK l m = false := by
     unfold valsOK
     rw [show (l.all fun x => inI x 0 4294967295) = false from List.all_eq_false.2 ⟨a, List.mem_of_getElem? ha, by rw [hv]; decide⟩, Bool.and_false]
    rw [this]
    repeat' (first | ((with_reducible refine kAL ?_); (first | refine uK (cA) ?_ | refine uA ?_)) | refine uC ?_ | fail)
    all_goals first | (exfalso; omega) | (exact Fin.q Tryz.results111 (.cons (.tmp rfl) .nil) [])
   ·rw [hv] at cA
    repeat' (first | ((with_reducible refine kAL ?_); (first | refine uK (cA) ?_ | refine uA ?_)) | refine uC ?_ | fail)
    all_goals first | (exfalso; omega) | skip
    refine ⟨i + 1, ⟨by omega, fun j hj b hb => ?_⟩, by omega, ?_⟩
    ·by_cases e : j = i
     ·subst e; rw [ha] at hb; cases hb; exact hv
     ·exact h3 j (by omega) b hb
    ·exact Wk.cq 0
  ·have : valsOK l m = decide ((l.length : Int) ≤ m) := by
    unfold valsOK
    rw [show (l.all fun x => inI x 0 4294967295) = true from List.all_eq_true.2 fun a ha => by
     obtain ⟨j, hj⟩ := List.getElem?_of_mem ha
     exact h3 j (by have := get_lt hj; omega) a hj, Bool.and_true]
   rw [this]
   by_cases e : (l.length : Int) ≤ m
   ·rw [decide_eq_true e]
    repeat' (first | refine uA ?_ | refine uC ?_ | fail)
    all_goals first | (exfalso; omega) | (exact Fin.q Tryz.results111 (.cons (.tmp rfl) .nil) [])
   ·rw [decide_eq_false e]
    repeat' (first | refine uA ?_ | refine uC ?_ | fail)
    all_goals first | (exfalso; omega) | (exact Fin.q Tryz.results111 (.cons (.tmp rfl) .nil) [])
theorem rresults_c (l : List Rst) (m : Int) (hl : l.length ≤ 1152921504606846976) : Cd Tryz.prog 110 [.ln (l.map tR), i64 m] (bo (resOK l m)) [] := by
 have h1 : (l.map tR).length = l.length := List.length_map _
 refine Cd.enter' Tryz.func110 rfl Tryz.ntmps110 rfl ?_
 repeat' (first | refine uA ?_ | refine uC ?_ | fail)
 refine AW.loopP (fun (i : Nat) => i ≤ l.length ∧ ∀ j, j < i → ∀ a, l[j]? = some a → goodR a = true) (fun (i : Nat) => (pu (pu (pu (pu (pu (fun _ => .any) 0 (.ln (l.map tR))) 1 (i64 m)) 7 (.ln (l.map tR))) 8 (i64 (l.map tR).length)) 9 (i64 i))) (fun (i : Nat) => []) (fun (i : Nat) => l.length - i) (0) ?_ ?_ ?_
 ·exact ⟨Nat.zero_le _, fun j hj => by omega⟩
 ·exact Wk.cq 0
 ·rintro i ⟨h2, h3⟩
  by_cases hi : i < l.length
  ·obtain ⟨a, ha⟩ : ∃ a, l[i]? = some a := ⟨_, List.getElem?_eq_getElem hi⟩
   have cA := rgood_c a
   cases hv : goodR a
   ·rw [hv] at cA
    have : resOK l m = false := by
     unfold resOK
     rw [show l.all goodR = false from List.all_eq_false.2 ⟨a, List.mem_of_getElem? ha, by rw [hv]; decide⟩, Bool.and_false]
    rw [this]
    repeat' (first | ((with_reducible refine kAL ?_); (first | refine uK (cA) ?_ | refine uA ?_)) | refine uC ?_ | fail)
    all_goals first | (exfalso; omega) | (exact Fin.q Tryz.results110 (.cons (.tmp rfl) .nil) [])
   ·rw [hv] at cA
    repeat' (first | ((with_reducible refine kAL ?_); (first | refine uK (cA) ?_ | refine uA ?_)) | refine uC ?_ | fail)
    all_goals first | (exfalso; omega) | skip
    refine ⟨i + 1, ⟨by omega, fun j hj b hb => ?_⟩, by omega, ?_⟩
    ·by_cases e : j = i
     ·subst e; rw [ha] at hb; cases hb; exact hv
     ·exact h3 j (by omega) b hb
    ·exact Wk.cq 0
  ·have : resOK l m = decide ((l.length : Int) = m) := by
    unfold resOK
    rw [show l.all goodR = true from List.all_eq_true.2 fun a ha => by
     obtain ⟨j, hj⟩ := List.getElem?_of_mem ha
     exact h3 j (by have := get_lt hj; omega) a hj, Bool.and_true]
   rw [this]
   by_cases e : (l.length : Int) = m
   ·rw [decide_eq_true e]
    repeat' (first | refine uA ?_ | refine uC ?_ | fail)
    all_goals first | (exfalso; omega) | (exact Fin.q Tryz.results110 (.cons (.tmp rfl) .nil) [])
   ·rw [decide_eq_false e]
    repeat' (first | refine uA ?_ | refine uC ?_ | fail)
    all_goals first | (exfalso; omega) | (exact Fin.q Tryz.results110 (.cons (.tmp rfl) .nil) [])
theorem all_yes {α : Type} {p : α → Bool} {l : List α} {n : Nat} (hn : ¬ n < l.length) (h : ∀ j, j < n → ∀ a, l[j]? = some a → p a = true) : l.all p = true := List.all_eq_true.2 fun a ha => by
 obtain ⟨j, hj⟩ := List.getElem?_of_mem ha
 exact h j (by have := get_lt hj; omega) a hj
theorem all_no {α : Type} {p : α → Bool} {l : List α} {n : Nat} {a : α} (ha : l[n]? = some a) (h : p a = false) : l.all p = false := List.all_eq_false.2 ⟨a, List.mem_of_getElem? ha, by rw [h]; decide⟩
theorem all_next {α : Type} {p : α → Bool} {l : List α} {n : Nat} {a : α} (ha : l[n]? = some a) (h : p a = true) (h3 : ∀ j, j < n → ∀ a, l[j]? = some a → p a = true) : ∀ j, j < n + 1 → ∀ a, l[j]? = some a → p a = true := fun j hj b hb => by
 by_cases e : j = n
 ·subst e; rw [ha] at hb; cases hb; exact h
 ·exact h3 j (by omega) b hb
theorem rFits_c (q : DReq) (hl : q.cases.length ≤ 1152921504606846976) : Cd Tryz.prog 16 [aRq q] (bo (fitQ q)) [] := by
 have h1 : (q.cases.map tCs).length = q.cases.length := List.length_map _
 obtain ⟨k, a, v, df, l⟩ := q
 unfold fitQ
 dsimp only at *
 by_cases k1 : (1 ≤ k ∧ k ≤ 9) ∧ (0 ≤ a ∧ a ≤ 65535) ∧ (0 ≤ v ∧ v ≤ 4294967295) ∧ l.length ≤ 3
 ·obtain ⟨k1, k2, k3, k4⟩ := k1
  rw [show inI k 1 9 = true from decide_eq_true k1, show inI a 0 65535 = true from decide_eq_true k2, show inI v 0 4294967295 = true from decide_eq_true k3, decide_eq_true k4]
  simp only [Bool.true_and]
  refine Cd.enter' Tryz.func16 rfl Tryz.ntmps16 rfl ?_
  repeat' (first | refine uA ?_ | refine uC ?_ | fail)
  all_goals first | (exfalso; omega) | skip
  refine AW.loopP (fun (i : Nat) => i ≤ l.length ∧ ∀ j, j < i → ∀ a, l[j]? = some a → caseOK a = true) (fun (i : Nat) => (pu (pu (pu (fun _ => .any) 40 (.ln (l.map tCs))) 41 (i64 (l.map tCs).length)) 42 (i64 i))) (fun (i : Nat) => []) (fun (i : Nat) => l.length - i) (0) ?_ ?_ ?_
  ·exact ⟨Nat.zero_le _, fun j hj => by omega⟩
  ·exact Wk.cq 0
  ·rintro i ⟨h2, h3⟩
   by_cases hi : i < l.length
   ·obtain ⟨a, ha⟩ : ∃ a, l[i]? = some a := ⟨_, List.getElem?_eq_getElem hi⟩
    cases hv : caseOK a
    ·rw [all_no ha hv]
     have hv' : ¬ ((a.dir = 1 ∨ a.dir = 2) ∧ (0 ≤ a.handle ∧ a.handle ≤ 65535) ∧ 0 ≤ a.value ∧ a.value ≤ 4294967295) := fun h => by rw [caseOK_iff.2 h] at hv; cases hv
     repeat' (first | ((with_reducible refine kAL ?_); (first | refine uA ?_ | refine uS 49 (fun hb => ?_) (fun hb => ?_) | refine uS 54 (fun hb => ?_) (fun hb => ?_) | refine uS 59 (fun hb => ?_) (fun hb => ?_) | refine uS 64 (fun hb => ?_) (fun hb => ?_) | refine uS 69 (fun hb => ?_) (fun hb => ?_))) | refine uC ?_ | fail)
     all_goals first | (exfalso; omega) | (exact Fin.q Tryz.results16 (.cons (.tmp rfl) .nil) [])
    ·have hv' := caseOK_iff.1 hv
     repeat' (first | refine uA ?_ | refine uC ?_ | fail)
     all_goals first | (exfalso; omega) | skip
     refine ⟨i + 1, ⟨by omega, all_next ha hv h3⟩, by omega, ?_⟩
     exact Wk.cq 0
   ·rw [all_yes hi h3]
    repeat' (first | refine uA ?_ | refine uC ?_ | fail)
    all_goals first | (exfalso; omega) | (exact Fin.q Tryz.results16 (.cons (.tmp rfl) .nil) [])
 ·have : (inI k 1 9 && inI a 0 65535 && inI v 0 4294967295 && decide (l.length ≤ 3) && l.all caseOK) = false := by
   cases h : (inI k 1 9 && inI a 0 65535 && inI v 0 4294967295 && decide (l.length ≤ 3) && l.all caseOK)
   ·rfl
   ·simp only [Bool.and_eq_true, inI_iff, decide_eq_true_eq] at h
    exact absurd ⟨h.1.1.1.1, h.1.1.1.2, h.1.1.2, h.1.2⟩ k1
  rw [this]
  refine Cd.enter' Tryz.func16 rfl Tryz.ntmps16 rfl ?_
  repeat' (first | ((with_reducible refine kAL ?_); (first | refine uA ?_ | refine uS 8 (fun hb => ?_) (fun hb => ?_) | refine uS 13 (fun hb => ?_) (fun hb => ?_) | refine uS 18 (fun hb => ?_) (fun hb => ?_) | refine uS 23 (fun hb => ?_) (fun hb => ?_) | refine uS 28 (fun hb => ?_) (fun hb => ?_) | refine uS 33 (fun hb => ?_) (fun hb => ?_))) | refine uC ?_ | fail)
  all_goals first | (exfalso; omega) | (exact Fin.q Tryz.results16 (.cons (.tmp rfl) .nil) [])
abbrev cfB (c : DConf) : Ob := .box 24 [i64 c.kind, i64 c.threads, i64 c.chans, i64 c.cap, i64 c.nodes, i64 c.retire, i64 c.patience, i64 c.tags, i64 c.seqs, i64 c.gens, .ln (c.start.map tI)]
abbrev hlB (h : DHall) : Ob := .box 49 [i64 h.ticket, .ln (h.chans.map tCh), .ln (h.waits.map tWt), .ln (h.done.map tR)]
theorem rfitsH_c (c : DConf) (h : DHall) (hs : c.start.length ≤ 1152921504606846976) (hh : okH h) : Cd Tryz.prog 69 [aCf c, aHl h] (bo (fitsH c h)) [] := by
 have c1 := rchk_c c hs
 have c2 := inR_c h.ticket 0 4294967295
 have c3 := rresults_c h.done c.threads hh.d
 have hc0 := hh.c
 have hw0 := hh.w
 have h1 : (h.chans.map tCh).length = h.chans.length := List.length_map _
 have h2 : (h.waits.map tWt).length = h.waits.length := List.length_map _
 unfold fitsH
 generalize inI h.ticket 0 4294967295 = b2 at *
 generalize resOK h.done c.threads = b3 at *
 cases hk : chkC c
 ·rw [hk] at c1
  simp only [Bool.false_and]
  refine Cd.enter' Tryz.func69 rfl Tryz.ntmps69 rfl ?_
  repeat' (first | ((with_reducible refine kAL ?_); (first | refine uK (c1) ?_ | refine uA ?_)) | refine uC ?_ | fail)
  all_goals first | (exfalso; omega) | (exact Fin.q Tryz.results69 (.cons (.tmp rfl) .nil) [])
 ·rw [hk] at c1
  cases hb : (decide (c.kind = 3) && b2 && decide ((h.chans.length : Int) = c.chans) && decide ((h.waits.length : Int) = c.threads) && b3)
  ·simp only [Bool.true_and]
   rw [hb, Bool.false_and, Bool.false_and]
   refine Cd.enter' Tryz.func69 rfl Tryz.ntmps69 rfl ?_
   have cs : ¬ c.kind = 3 ∨ (c.kind = 3 ∧ b2 = false) ∨ (c.kind = 3 ∧ b2 = true ∧ ¬ (h.chans.length : Int) = c.chans) ∨ (c.kind = 3 ∧ b2 = true ∧ (h.chans.length : Int) = c.chans ∧ ¬ (h.waits.length : Int) = c.threads) ∨ (c.kind = 3 ∧ b2 = true ∧ (h.chans.length : Int) = c.chans ∧ (h.waits.length : Int) = c.threads ∧ b3 = false) := by
    by_cases e1 : c.kind = 3 <;> by_cases e2 : (h.chans.length : Int) = c.chans <;> by_cases e3 : (h.waits.length : Int) = c.threads <;> cases b2 <;> cases b3 <;> simp [e1, e2, e3] at hb ⊢
   clear hb
   rcases cs with e1 | ⟨e1, rfl⟩ | ⟨e1, rfl, e2⟩ | ⟨e1, rfl, e2, e3⟩ | ⟨e1, rfl, e2, e3, rfl⟩
   all_goals
    repeat' (first | ((with_reducible refine kAL ?_); (first | refine uK (c1) ?_ | refine uK (c2) ?_ | refine uK (c3) ?_ | refine uA ?_)) | refine uC ?_ | fail)
    all_goals first | (exfalso; omega) | (exact Fin.q Tryz.results69 (.cons (.tmp rfl) .nil) [])
  ·simp only [Bool.true_and]
   rw [hb, Bool.true_and]
   simp only [Bool.and_eq_true, decide_eq_true_eq] at hb
   obtain ⟨⟨⟨⟨e1, rfl⟩, e2⟩, e3⟩, rfl⟩ := hb
   refine Cd.enter' Tryz.func69 rfl Tryz.ntmps69 rfl ?_
   repeat' (first | ((with_reducible refine kAL ?_); (first | refine uK (c1) ?_ | refine uK (c2) ?_ | refine uK (c3) ?_ | refine uA ?_)) | refine uC ?_ | fail)
   all_goals first | (exfalso; omega) | skip
   refine AW.loopP (fun (i : Nat) => i ≤ h.chans.length ∧ ∀ j, j < i → ∀ a, h.chans[j]? = some a → chanOK c.cap a = true) (fun (i : Nat) => (pu (pu (pu (pu (pu (fun _ => .any) 2 (.ptr 0 0)) 3 (.ptr 1 0)) 48 (.ln (h.chans.map tCh))) 49 (i64 (h.chans.map tCh).length)) 50 (i64 i))) (fun (i : Nat) => [cfB c, hlB h]) (fun (i : Nat) => h.chans.length - i) (0) ?_ ?_ ?_
   ·exact ⟨Nat.zero_le _, fun j hj => by omega⟩
   ·exact Wk.cq 2
   ·rintro i ⟨g2, g3⟩
    by_cases hi : i < h.chans.length
    ·obtain ⟨a, ha⟩ : ∃ a, h.chans[i]? = some a := ⟨_, List.getElem?_eq_getElem hi⟩
     have d1 := inR_c a.gen 0 4095
     have d2 := inR_c a.cap 0 c.cap
     have d3 := rvalues_c a.buf a.cap (hh.b a (List.mem_of_getElem? ha))
     cases hv : chanOK c.cap a
     ·rw [all_no ha hv, Bool.false_and]
      have hv0 : inI a.cap 0 c.cap = true → 0 ≤ a.cap := fun h => (inI_iff.1 h).1
      unfold chanOK at hv
      generalize inI a.gen 0 4095 = b1 at *
      generalize inI a.cap 0 c.cap = b2 at *
      generalize valsOK a.buf a.cap = b3 at *
      obtain ⟨g, k, u, cl, buf⟩ := a
      dsimp only at *
      cases b1
      ·repeat' (first | ((with_reducible refine kAL ?_); (first | refine uK (d1) ?_ | refine uA ?_)) | refine uC ?_ | fail)
       all_goals first | (exfalso; omega) | (exact Fin.q Tryz.results69 (.cons (.tmp rfl) .nil) [])
      ·cases b2
       ·repeat' (first | ((with_reducible refine kAL ?_); (first | refine uK (d1) ?_ | refine uK (d2) ?_ | refine uA ?_)) | refine uC ?_ | fail)
        all_goals first | (exfalso; omega) | (exact Fin.q Tryz.results69 (.cons (.tmp rfl) .nil) [])
       ·have hv0 := hv0 rfl
        cases b3
        ·repeat' (first | ((with_reducible refine kAL ?_); (first | refine uK (d1) ?_ | refine uK (d2) ?_ | refine uK (d3) ?_ | refine uA ?_)) | refine uC ?_ | fail)
         all_goals first | (exfalso; omega) | (exact Fin.q Tryz.results69 (.cons (.tmp rfl) .nil) [])
        ·cases u
         ·cases cl
          ·have hk0 : k ≠ 0 := fun e => by subst e; simp at hv
           repeat' (first | ((with_reducible refine kAL ?_); (first | refine uK (d1) ?_ | refine uK (d2) ?_ | refine uK (d3) ?_ | refine uA ?_)) | refine uC ?_ | fail)
           all_goals first | (exfalso; omega) | (exact Fin.q Tryz.results69 (.cons (.tmp rfl) .nil) [])
          ·repeat' (first | ((with_reducible refine kAL ?_); (first | refine uK (d1) ?_ | refine uK (d2) ?_ | refine uK (d3) ?_ | refine uA ?_)) | refine uC ?_ | fail)
           all_goals first | (exfalso; omega) | (exact Fin.q Tryz.results69 (.cons (.tmp rfl) .nil) [])
         ·simp at hv
     ·have hv' := hv
      unfold chanOK at hv'
      simp only [Bool.and_eq_true] at hv'
      obtain ⟨⟨⟨v1, v2⟩, v3⟩, v4⟩ := hv'
      rw [v1] at d1
      rw [v2] at d2
      rw [v3] at d3
      have hnx := all_next ha hv g3
      obtain ⟨g, k, u, cl, buf⟩ := a
      dsimp only at *
      cases u
      ·cases cl
       ·have hk0 : k = 0 := by simpa using v4
        repeat' (first | ((with_reducible refine kAL ?_); (first | refine uK (d1) ?_ | refine uK (d2) ?_ | refine uK (d3) ?_ | refine uA ?_)) | refine uC ?_ | fail)
        all_goals first | (exfalso; omega) | skip
        refine ⟨i + 1, ⟨by omega, hnx⟩, by omega, ?_⟩
        exact Wk.cq 2
       ·simp at v4
      ·repeat' (first | ((with_reducible refine kAL ?_); (first | refine uK (d1) ?_ | refine uK (d2) ?_ | refine uK (d3) ?_ | refine uA ?_)) | refine uC ?_ | fail)
       all_goals first | (exfalso; omega) | skip
       refine ⟨i + 1, ⟨by omega, hnx⟩, by omega, ?_⟩
       exact Wk.cq 2
    ·rw [all_yes hi g3, Bool.true_and]
     repeat' (first | refine uA ?_ | refine uC ?_ | fail)
     all_goals first | (exfalso; omega) | skip
     refine AW.loopP (fun (i : Nat) => i ≤ h.waits.length ∧ ∀ j, j < i → ∀ a, h.waits[j]? = some a → waitOK a = true) (fun (i : Nat) => (pu (pu (pu (fun _ => .any) 88 (.ln (h.waits.map tWt))) 89 (i64 (h.waits.map tWt).length)) 90 (i64 i))) (fun (i : Nat) => []) (fun (i : Nat) => h.waits.length - i) (0) ?_ ?_ ?_
     ·exact ⟨Nat.zero_le _, fun j hj => by omega⟩
     ·exact Wk.cq 0
     ·rintro i ⟨g2, g3⟩
      by_cases hi : i < h.waits.length
      ·obtain ⟨a, ha⟩ : ∃ a, h.waits[i]? = some a := ⟨_, List.getElem?_eq_getElem hi⟩
       have d1 := inR_c a.ticket 0 4294967295
       have d2 := inR_c a.seq 0 1048575
       have d3 := rFits_c ⟨3, 0, 0, false, a.cases⟩ (hh.k a (List.mem_of_getElem? ha))
       have h3 : (a.cases.map tCs).length = a.cases.length := List.length_map _
       rw [fitQ_sel] at d3
       cases hv : waitOK a
       ·rw [all_no ha hv]
        unfold waitOK at hv
        generalize inI a.ticket 0 4294967295 = b1 at *
        generalize inI a.seq 0 1048575 = b2 at *
        obtain ⟨on, tk, sq, l⟩ := a
        dsimp only at *
        have hst : l = [] ↔ l.length = 0 := List.length_eq_zero_iff.symm
        cases on
        ·have hv' : ¬ (tk = 0 ∧ sq = 0 ∧ l.length = 0) := fun h => by simp [h.1, h.2.1, hst.2 h.2.2] at hv
         repeat' (first | ((with_reducible refine kAL ?_); (first | refine uA ?_ | refine uS 100 (fun hb => ?_) (fun hb => ?_) | refine uS 105 (fun hb => ?_) (fun hb => ?_))) | refine uC ?_ | fail)
         all_goals first | (exfalso; omega) | (exact Fin.q Tryz.results69 (.cons (.tmp rfl) .nil) [])
        ·rw [if_pos rfl] at hv
         cases b1
         ·repeat' (first | ((with_reducible refine kAL ?_); (first | refine uK (d1) ?_ | refine uA ?_)) | refine uC ?_ | fail)
          all_goals first | (exfalso; omega) | (exact Fin.q Tryz.results69 (.cons (.tmp rfl) .nil) [])
         ·cases b2
          ·repeat' (first | ((with_reducible refine kAL ?_); (first | refine uK (d1) ?_ | refine uK (d2) ?_ | refine uA ?_)) | refine uC ?_ | fail)
           all_goals first | (exfalso; omega) | (exact Fin.q Tryz.results69 (.cons (.tmp rfl) .nil) [])
          ·by_cases k0 : l.length = 0
           ·repeat' (first | ((with_reducible refine kAL ?_); (first | refine uK (d1) ?_ | refine uK (d2) ?_ | refine uA ?_)) | refine uC ?_ | fail)
            all_goals first | (exfalso; omega) | (exact Fin.q Tryz.results69 (.cons (.tmp rfl) .nil) [])
           ·have : (decide (l.length ≤ 3) && l.all caseOK) = false := by
             have hd1 : decide (1 ≤ l.length ∧ l.length ≤ 3) = decide (l.length ≤ 3) := decide_eq_decide.2 (by omega)
             rw [hd1] at hv
             simpa using hv
            rw [this] at d3
            repeat' (first | ((with_reducible refine kAL ?_); (first | refine uK (d1) ?_ | refine uK (d2) ?_ | refine uK (d3) ?_ | refine uA ?_)) | refine uC ?_ | fail)
            all_goals first | (exfalso; omega) | (exact Fin.q Tryz.results69 (.cons (.tmp rfl) .nil) [])
       ·have hnx := all_next ha hv g3
        rcases waitOK_iff.1 hv with ⟨v0, v1, v2, v3, v4⟩ | ⟨v0, v1, v2, v3⟩
        ·rw [show inI a.ticket 0 4294967295 = true from decide_eq_true v1] at d1
         rw [show inI a.seq 0 1048575 = true from decide_eq_true v2] at d2
         rw [decide_eq_true v3.2, List.all_eq_true.2 v4] at d3
         obtain ⟨on, tk, sq, l⟩ := a
         dsimp only at *
         subst v0
         repeat' (first | ((with_reducible refine kAL ?_); (first | refine uK (d1) ?_ | refine uK (d2) ?_ | refine uK (d3) ?_ | refine uA ?_)) | refine uC ?_ | fail)
         all_goals first | (exfalso; omega) | skip
         refine ⟨i + 1, ⟨by omega, hnx⟩, by omega, ?_⟩
         exact Wk.cq 0
        ·obtain ⟨on, tk, sq, l⟩ := a
         dsimp only at *
         subst v0 v1 v2 v3
         repeat' (first | refine uA ?_ | refine uC ?_ | fail)
         all_goals first | (exfalso; omega) | skip
         refine ⟨i + 1, ⟨by omega, hnx⟩, by omega, ?_⟩
         exact Wk.cq 0
      ·rw [all_yes hi g3]
       repeat' (first | refine uA ?_ | refine uC ?_ | fail)
       all_goals first | (exfalso; omega) | (exact Fin.q Tryz.results69 (.cons (.tmp rfl) .nil) [])
theorem rfitsX_c (c : DConf) (x : DCells) (hs : c.start.length ≤ 1152921504606846976) (h1 : x.list.length ≤ 1152921504606846976) (h2 : x.done.length ≤ 1152921504606846976) : Cd Tryz.prog 79 [aCf c, aCl x] (bo (fitsX c x)) [] := by
 have c1 := rchk_c c hs
 have c2 := rvalues_c x.list c.cap h1
 have c3 := rresults_c x.done c.threads h2
 unfold fitsX
 generalize valsOK x.list c.cap = b2 at *
 generalize resOK x.done c.threads = b3 at *
 cases hk : chkC c
 ·rw [hk] at c1
  simp only [Bool.false_and]
  refine Cd.enter' Tryz.func79 rfl Tryz.ntmps79 rfl ?_
  repeat' (first | ((with_reducible refine kAL ?_); (first | refine uK (c1) ?_ | refine uA ?_)) | refine uC ?_ | fail)
  all_goals first | (exfalso; omega) | (exact Fin.q Tryz.results79 (.cons (.tmp rfl) .nil) [])
 ·rw [hk] at c1
  by_cases e1 : c.kind = 3 <;> by_cases e2 : x.cap = c.cap
  all_goals
   simp only [e1, e2, ne_eq, not_true_eq_false, not_false_eq_true, decide_true, decide_false, Bool.true_and, Bool.and_true, Bool.false_and, Bool.and_false]
   refine Cd.enter' Tryz.func79 rfl Tryz.ntmps79 rfl ?_
   repeat' (first | ((with_reducible refine kAL ?_); (first | refine uK (c1) ?_ | refine uK (c2) ?_ | refine uK (c3) ?_ | refine uA ?_ | refine uS 27 (fun hb => ?_) (fun hb => ?_))) | refine uC ?_ | fail)
   all_goals first | (exfalso; omega) | ((first | exact Fin.q Tryz.results79 (.cons (.tmp rfl) .nil) [] | refine Fin.q Tryz.results79 (.cons (.tmp rfl) .nil) [] (hr := (.t ?_))))
   all_goals first | (simp [*]; done) | skip
end
end Go.Proofs.YtbpgopomninedaaGreat
