/- Joined: XTPutR, XTWords, XTRead. -/
import Derived.Test.YtbpgopomninedaaGreatKAg
import Derived.Test.YtbpgopomninedaaGreatKAw
import Derived.Test.YtbpgopomninedaaGreatKAo
import Derived.Test.YtbpgopomninedaaGreatKAk
import Derived.Test.YtbpgopomninedaaGreatKAp
import Derived.Test.YtbpgopomninedaaGreatKAq
import Derived.Test.YtbpgopomninedaaGreatKAc
namespace Go.Proofs.YtbpgopomninedaaGreat
open Go.RowKit
set_option linter.unusedVariables false
set_option linter.unusedSimpArgs false
set_option linter.unnecessarySimpa false
set_option maxRecDepth 100000
set_option maxHeartbeats 64000000
section
attribute [local irreducible] AL AW RG Fin C Cd Cio thenQ blockQ retQ
set_option maxRecDepth 100000
theorem bit_c (b : Bool) : Cd Tryz.prog 70 [bo b] (u64 (bitI b)) [] := by
 cases b
 all_goals
  refine Cd.enter' Tryz.func70 rfl Tryz.ntmps70 rfl ?_
  repeat' (first | refine uA ?_ | refine uC ?_ | fail)
  all_goals (exact Fin.q Tryz.results70 (.cons (.tmp rfl) .nil) [])
def putA1 (c : DConf) (h : DHall) (i : Nat) (a : DChan) (j : Nat) : List Int := (putA c h i ++ [headC a]) ++ wpad a.buf j
def putB1 (c : DConf) (h : DHall) (i : Nat) (a : DWait) (j : Nat) : List Int := (putB c h i ++ [headW a]) ++ wpad (a.cases.map wordK) j
def putD1 (M : List Int) (l : List Rst) (i : Nat) : List Int := M ++ (l.take i).map wordR
theorem putA1_next {c : DConf} {h : DHall} {i : Nat} {a : DChan} {j : Nat} {x : Int} (hx : a.buf.getD j 0 = x) : putA1 c h i a (j + 1) = putA1 c h i a j ++ [x] := by subst hx; unfold putA1; rw [wpad_succ]; simp
theorem putB1_next {c : DConf} {h : DHall} {i : Nat} {a : DWait} {j : Nat} {x : Int} (hx : (a.cases.map wordK).getD j 0 = x) : putB1 c h i a (j + 1) = putB1 c h i a j ++ [x] := by subst hx; unfold putB1; rw [wpad_succ]; simp
theorem putD1_next {M : List Int} {l : List Rst} {i : Nat} {a : Rst} (ha : l[i]? = some a) : putD1 M l (i + 1) = putD1 M l i ++ [wordR a] := by unfold putD1; rw [List.take_add_one, ha]; simp
theorem getD_no {α : Type} {l : List α} {n : Nat} {d : α} (h : ¬ n < l.length) : l.getD n d = d := by rw [List.getD_eq_getElem?_getD, List.getElem?_eq_none (by omega)]; rfl
theorem rputH_c (c : DConf) (h : DHall) (hs : c.start.length ≤ 1152921504606846976) (hh : okH h) : Cd Tryz.prog 30 [aCf c, aHl h] (.t (.lst ((putH c h).map tU))) [] := by
 have c1 := rfitsH_c c h hs hh
 have g1 : (h.chans.map tCh).length = h.chans.length := List.length_map _
 have g2 : (h.waits.map tWt).length = h.waits.length := List.length_map _
 have g3 : (h.done.map tR).length = h.done.length := List.length_map _
 cases hf : fitsH c h
 ·rw [hf] at c1
  rw [show putH c h = [] by unfold putH; rw [hf]; rfl]
  refine Cd.enter' Tryz.func30 rfl Tryz.ntmps30 rfl ?_
  repeat' (first | ((with_reducible refine kAL ?_); (first | (refine zkD 4 rfl ?_; refine uA ?_; (try refine AL.wk (Wk.nz 4 rfl (by exact .nlt)) ?_)) | refine uK (c1) ?_ | refine uA ?_)) | refine uC ?_ | fail)
  all_goals first | (exfalso; omega) | (exact Fin.q Tryz.results30 (.cons (.tmp rfl) .nil) [])
 ·rw [hf] at c1
  obtain ⟨h0, h1, h2, h3, h4, ⟨h5, h6⟩, h7, h8⟩ := fitsH_iff.1 hf
  have hsh := chkC_shaped h0
  have hb := hsh.h3 h1
  have ht1 := hsh.t1
  have hcap : c.cap = (c.cap.toNat : Int) := by omega
  have hmul : ∀ i, i ≤ h.chans.length → i * (c.cap.toNat + 1) ≤ 72 := fun i hi => Nat.le_trans (Nat.mul_le_mul (show i ≤ 8 by omega) (show c.cap.toNat + 1 ≤ 9 by omega)) (by decide)
  rw [← putB_end hf]
  refine Cd.enter' Tryz.func30 rfl Tryz.ntmps30 rfl ?_
  repeat' (first | ((with_reducible refine kAL ?_); (first | refine uK (c1) ?_ | refine A_lit rfl rfl 25 1 _ rfl ud25 inf31 (.cons rfl .nil) (els := [[_]]) rfl (by exact (rfl : _ = List.map tU [_])) rfl (Nat.ne_of_beq_eq_false rfl) (Nat.le_of_ble_eq_true rfl) (Nat.le_of_ble_eq_true rfl) (.push qL qN) ?_ | refine uA ?_)) | refine uC ?_ | fail)
  all_goals first | (exfalso; omega) | skip
  refine AW.loopP (fun (x : Nat × Nat × Nat) => x.1 ≤ h.chans.length ∧ x.2.2 = (putA c h x.1).length) (fun (x : Nat × Nat × Nat) => (pu (pu (pu (pu (pu (pu (fun _ => .any) 2 (.ptr 0 0)) 3 (.ptr 1 0)) 5 (.sl 2 x.2.1 x.2.2)) 24 (.ln (h.chans.map tCh))) 25 (i64 (h.chans.map tCh).length)) 26 (i64 x.1))) (fun (x : Nat × Nat × Nat) => [cfB c, hlB h, .row x.2.1 31 1 ((putA c h x.1).map tU)]) (fun (x : Nat × Nat × Nat) => h.chans.length - x.1) ((0, 0, 1)) ?_ ?_ ?_
  ·exact ⟨Nat.zero_le _, rfl⟩
  ·exact Wk.cq 3
  ·rintro ⟨i, k, m⟩ ⟨l2, l3⟩
   dsimp only at l2 l3 ⊢
   have hL := putA_len (c := c) l2
   have hM := hmul i l2
   by_cases hi : i < h.chans.length
   ·obtain ⟨a, ha⟩ : ∃ a, h.chans[i]? = some a := ⟨_, List.getElem?_eq_getElem hi⟩
    have hOK := h7 a (List.mem_of_getElem? ha)
    obtain ⟨q1, q2, ⟨q3, q4⟩, _⟩ := chanOK_iff.1 hOK
    have b1 := bitI_b a.used
    have b2 := bitI_b a.closed
    have k1 := bit_c a.used
    have k2 := bit_c a.closed
    have g4 : (a.buf.map tI).length = a.buf.length := List.length_map _
    have hw : headC a = a.gen + 4096 * a.cap + 65536 * bitI a.used + 131072 * bitI a.closed + 1048576 * ((a.buf.map tI).length : Int) := by unfold headC; omega
    have hs := putA_next (c := c) ha
    have hz : putA1 c h i a 0 = putA c h i ++ [a.gen + 4096 * a.cap + 65536 * bitI a.used + 131072 * bitI a.closed + 1048576 * ((a.buf.map tI).length : Int)] := by unfold putA1; rw [← hw]; simp [wpad]
    repeat' (first | refine uA ?_ | ((with_reducible refine kRG ?_); (first | refine uQ (k1) 0 ?_ | refine uQ (k2) 0 ?_ | refine R_lit (N := 4) rfl rfl 25 1 _ rfl ud25 inf31 (.cons rfl .nil) (els := [[_]]) rfl (by exact (rfl : _ = List.map tU [_])) rfl (Nat.ne_of_beq_eq_false rfl) (Nat.le_of_ble_eq_true rfl) (Nat.le_of_ble_eq_true rfl) rfl qN ?_ | refine uR ?_)) | refine uC ?_ | refine AW.drawU (id := 7) mixed 2 qR ?_ | fail)
    all_goals first | (exfalso; omega) | skip
    refine AW.loopP (fun (j : Nat) => j ≤ c.cap.toNat) (fun (j : Nat) => (pu (pu (pu (pu (pu (pu (pu (pu (fun _ => .any) 2 (.ptr 0 0)) 3 (.ptr 1 0)) 5 (.sl 2 (k + 1 + j) (m + 1 + j))) 7 (.ptr 3 0)) 8 (i64 j)) 24 (.ln (h.chans.map tCh))) 25 (i64 (h.chans.map tCh).length)) 26 (i64 i))) (fun (j : Nat) => [cfB c, hlB h, .row (k + 1 + j) 31 1 ((putA1 c h i a j).map tU), .box 87 [i64 a.gen, i64 a.cap, bo a.used, bo a.closed, .t (.lst (a.buf.map tI))]]) (fun (j : Nat) => c.cap.toNat - j) (0) ?_ ?_ ?_
    ·exact Nat.zero_le _
    ·rw [hz]
     exact Wk.cq 4
    ·intro j l4
     have hL2 : (putA1 c h i a j).length = m + 1 + j := by unfold putA1; simp [wpad_len]; omega
     by_cases hj : j < c.cap.toNat
     ·by_cases hjb : j < a.buf.length
      ·obtain ⟨y, hy⟩ : ∃ y, a.buf[j]? = some y := ⟨_, List.getElem?_eq_getElem hjb⟩
       have hyb := q4 y (List.mem_of_getElem? hy)
       have hs := putA1_next (c := c) (h := h) (i := i) (a := a) (j := j) (x := y) (by rw [List.getD_eq_getElem?_getD, hy]; rfl)
       repeat' (first | ((with_reducible refine kAL ?_); (first | refine A_lit rfl rfl 25 1 _ rfl ud25 inf31 (.cons rfl .nil) (els := [[_]]) rfl (by exact (rfl : _ = List.map tU [_])) rfl (Nat.ne_of_beq_eq_false rfl) (Nat.le_of_ble_eq_true rfl) (Nat.le_of_ble_eq_true rfl) (.push qL qN) ?_ | refine uA ?_)) | refine uC ?_ | fail)
       all_goals first | (exfalso; omega) | skip
       refine ⟨j + 1, by omega, by omega, ?_⟩
       rw [hs]
       exact Wk.cq 4
      ·have hs := putA1_next (c := c) (h := h) (i := i) (a := a) (j := j) (x := 0) (getD_no hjb)
       repeat' (first | ((with_reducible refine kAL ?_); (first | refine A_lit rfl rfl 25 1 _ rfl ud25 inf31 (.cons rfl .nil) (els := [[_]]) rfl (by exact (rfl : _ = List.map tU [_])) rfl (Nat.ne_of_beq_eq_false rfl) (Nat.le_of_ble_eq_true rfl) (Nat.le_of_ble_eq_true rfl) (.push qL qN) ?_ | refine uA ?_)) | refine uC ?_ | fail)
       all_goals first | (exfalso; omega) | skip
       refine ⟨j + 1, by omega, by omega, ?_⟩
       rw [hs]
       exact Wk.cq 4
     ·obtain rfl : j = c.cap.toNat := by omega
      repeat' (first | refine uA ?_ | refine uC ?_ | fail)
      all_goals first | (exfalso; omega) | skip
      refine ⟨(i + 1, k + 1 + c.cap.toNat, m + 1 + c.cap.toNat), ⟨by dsimp only; omega, by dsimp only; rw [hs]; simp [wpad_len]; omega⟩, by dsimp only; omega, ?_⟩
      rw [show putA c h (i + 1) = putA1 c h i a c.cap.toNat from hs]
      exact Wk.cq 3
   ·obtain rfl : i = h.chans.length := by omega
    rw [putA_end] at l3 ⊢
    repeat' (first | refine uA ?_ | refine uC ?_ | fail)
    all_goals first | (exfalso; omega) | skip
    refine AW.loopP (fun (x : Nat × Nat × Nat) => x.1 ≤ h.waits.length ∧ x.2.2 = (putB c h x.1).length) (fun (x : Nat × Nat × Nat) => (pu (pu (pu (pu (pu (pu (fun _ => .any) 2 (.ptr 0 0)) 3 (.ptr 1 0)) 5 (.sl 2 x.2.1 x.2.2)) 82 (.ln (h.waits.map tWt))) 83 (i64 (h.waits.map tWt).length)) 84 (i64 x.1))) (fun (x : Nat × Nat × Nat) => [cfB c, hlB h, .row x.2.1 31 1 ((putB c h x.1).map tU)]) (fun (x : Nat × Nat × Nat) => h.waits.length - x.1) ((0, k, m)) ?_ ?_ ?_
    ·exact ⟨Nat.zero_le _, l3⟩
    ·exact Wk.cq 3
    ·rintro ⟨i, k, m⟩ ⟨l2, l3⟩
     dsimp only at l2 l3 ⊢
     have hL := putB_len (c := c) l2
     have hM := hmul _ (Nat.le_refl _)
     by_cases hi : i < h.waits.length
     ·obtain ⟨a, ha⟩ : ∃ a, h.waits[i]? = some a := ⟨_, List.getElem?_eq_getElem hi⟩
      have hOK := h8 a (List.mem_of_getElem? ha)
      obtain ⟨q1, q2, q3, q4⟩ := waitOK_b hOK
      have g4 : (a.cases.map tCs).length = a.cases.length := List.length_map _
      have hbt := bitI_b a.on
      have cFl := bit_c a.on
      have hw : headW a = bitI a.on + 2 * ((a.cases.map tCs).length : Int) + 16 * a.seq + 4294967296 * a.ticket := by unfold headW; omega
      have hs := putB_next (c := c) ha
      have hz : putB1 c h i a 0 = putB c h i ++ [bitI a.on + 2 * ((a.cases.map tCs).length : Int) + 16 * a.seq + 4294967296 * a.ticket] := by unfold putB1; rw [← hw]; simp [wpad]
      repeat' (first | refine uA ?_ | ((with_reducible refine kRG ?_); (first | refine uQ (cFl) 0 ?_ | refine R_lit (N := 4) rfl rfl 25 1 _ rfl ud25 inf31 (.cons rfl .nil) (els := [[_]]) rfl (by exact (rfl : _ = List.map tU [_])) rfl (Nat.ne_of_beq_eq_false rfl) (Nat.le_of_ble_eq_true rfl) (Nat.le_of_ble_eq_true rfl) rfl qN ?_ | refine uR ?_)) | refine uC ?_ | refine AW.drawU (id := 18) mixed 2 qR ?_ | fail)
      all_goals first | (exfalso; omega) | skip
      refine AW.loopP (fun (j : Nat) => j ≤ 3) (fun (j : Nat) => (pu (pu (pu (pu (pu (pu (pu (pu (fun _ => .any) 2 (.ptr 0 0)) 3 (.ptr 1 0)) 5 (.sl 2 (k + 1 + j) (m + 1 + j))) 10 (.ptr 3 0)) 11 (i64 j)) 82 (.ln (h.waits.map tWt))) 83 (i64 (h.waits.map tWt).length)) 84 (i64 i))) (fun (j : Nat) => [cfB c, hlB h, .row (k + 1 + j) 31 1 ((putB1 c h i a j).map tU), .box 90 [bo a.on, i64 a.ticket, i64 a.seq, .t (.lst (a.cases.map tCs))]]) (fun (j : Nat) => 3 - j) (0) ?_ ?_ ?_
      ·exact Nat.zero_le _
      ·rw [hz]
       exact Wk.cq 4
      ·intro j l4
       have hL2 : (putB1 c h i a j).length = m + 1 + j := by unfold putB1; simp [wpad_len]; omega
       by_cases hj : j < 3
       ·by_cases hjb : j < a.cases.length
        ·obtain ⟨y, hy⟩ : ∃ y, a.cases[j]? = some y := ⟨_, List.getElem?_eq_getElem hjb⟩
         have hyb := caseOK_iff.1 (q4 y (List.mem_of_getElem? hy))
         have hs := putB1_next (c := c) (h := h) (i := i) (a := a) (j := j) (x := y.dir + 256 * y.handle + 4294967296 * y.value) (by rw [List.getD_eq_getElem?_getD, List.getElem?_map, hy]; rfl)
         repeat' (first | ((with_reducible refine kAL ?_); (first | refine A_lit rfl rfl 25 1 _ rfl ud25 inf31 (.cons rfl .nil) (els := [[_]]) rfl (by exact (rfl : _ = List.map tU [_])) rfl (Nat.ne_of_beq_eq_false rfl) (Nat.le_of_ble_eq_true rfl) (Nat.le_of_ble_eq_true rfl) (.push qL qN) ?_ | refine uA ?_)) | refine uC ?_ | fail)
         all_goals first | (exfalso; omega) | skip
         refine ⟨j + 1, by omega, by omega, ?_⟩
         rw [hs]
         exact Wk.cq 4
        ·have hs := putB1_next (c := c) (h := h) (i := i) (a := a) (j := j) (x := 0) (getD_no (by simpa using hjb))
         repeat' (first | ((with_reducible refine kAL ?_); (first | refine A_lit rfl rfl 25 1 _ rfl ud25 inf31 (.cons rfl .nil) (els := [[_]]) rfl (by exact (rfl : _ = List.map tU [_])) rfl (Nat.ne_of_beq_eq_false rfl) (Nat.le_of_ble_eq_true rfl) (Nat.le_of_ble_eq_true rfl) (.push qL qN) ?_ | refine uA ?_)) | refine uC ?_ | fail)
         all_goals first | (exfalso; omega) | skip
         refine ⟨j + 1, by omega, by omega, ?_⟩
         rw [hs]
         exact Wk.cq 4
       ·obtain rfl : j = 3 := by omega
        repeat' (first | refine uA ?_ | refine uC ?_ | fail)
        all_goals first | (exfalso; omega) | skip
        refine ⟨(i + 1, k + 1 + 3, m + 1 + 3), ⟨by dsimp only; omega, by dsimp only; rw [hs]; simp [wpad_len]; omega⟩, by dsimp only; omega, ?_⟩
        rw [show putB c h (i + 1) = putB1 c h i a 3 from hs]
        exact Wk.cq 3
     ·obtain rfl : i = h.waits.length := by omega
      repeat' (first | refine uA ?_ | refine uC ?_ | fail)
      all_goals first | (exfalso; omega) | skip
      refine AW.loopP (fun (j : Nat) => j ≤ h.done.length) (fun (j : Nat) => (pu (pu (pu (pu (fun _ => .any) 5 (.sl 2 (k + j) (m + j))) 145 (.ln (h.done.map tR))) 146 (i64 (h.done.map tR).length)) 147 (i64 j))) (fun (j : Nat) => [cfB c, hlB h, .row (k + j) 31 1 ((putD1 (putB c h h.waits.length) h.done j).map tU)]) (fun (j : Nat) => h.done.length - j) (0) ?_ ?_ ?_
      ·exact Nat.zero_le _
      ·rw [show putD1 (putB c h h.waits.length) h.done 0 = putB c h h.waits.length by simp [putD1]]
       exact Wk.cq 3
      ·intro j l4
       have hL2 : (putD1 (putB c h h.waits.length) h.done j).length = m + j := by unfold putD1; simp; omega
       by_cases hj : j < h.done.length
       ·obtain ⟨y, hy⟩ : ∃ y, h.done[j]? = some y := ⟨_, List.getElem?_eq_getElem hj⟩
        have hs := putD1_next (M := putB c h h.waits.length) hy
        repeat' (first | ((with_reducible refine kAL ?_); (first | refine A_lit rfl rfl 25 1 _ rfl ud25 inf31 (.cons rfl .nil) (els := [[_]]) rfl (by exact (rfl : _ = List.map tU [_])) rfl (Nat.ne_of_beq_eq_false rfl) (Nat.le_of_ble_eq_true rfl) (Nat.le_of_ble_eq_true rfl) (.push qL qN) ?_ | refine uK (rresult_c y) ?_ | refine uA ?_)) | refine uC ?_ | fail)
        all_goals first | (exfalso; omega) | skip
        refine ⟨j + 1, by omega, by omega, ?_⟩
        rw [hs]
        exact Wk.cq 3
       ·obtain rfl : j = h.done.length := by omega
        rw [show putB c h h.waits.length ++ h.done.map wordR = putD1 (putB c h h.waits.length) h.done h.done.length by unfold putD1; rw [List.take_length]]
        repeat' (first | ((with_reducible refine kAL ?_); (first | (refine zkD 4 rfl ?_; refine uA ?_; (try refine AL.wk (Wk.freeze 2 rfl 4 rfl (by exact .all (by (simp; omega))) qN) ?_)) | refine uA ?_)) | refine uC ?_ | fail)
        all_goals first | (exfalso; omega) | (exact Fin.q Tryz.results30 (.cons (.tmp rfl) .nil) [])
def putX1 (x : DCells) (j : Nat) : List Int := (x.list.length : Int) :: wpad x.list j
abbrev clB (x : DCells) : Ob := .box 53 [i64 x.cap, .ln (x.list.map tI), .ln (x.done.map tR)]
theorem rputX_c (c : DConf) (x : DCells) (hs : c.start.length ≤ 1152921504606846976) (k1 : x.list.length ≤ 1152921504606846976) (k2 : x.done.length ≤ 1152921504606846976) : Cd Tryz.prog 32 [aCf c, aCl x] (.t (.lst ((putX c x).map tU))) [] := by
 have c1 := rfitsX_c c x hs k1 k2
 have g1 : (x.list.map tI).length = x.list.length := List.length_map _
 have g3 : (x.done.map tR).length = x.done.length := List.length_map _
 cases hf : fitsX c x
 ·rw [hf] at c1
  rw [show putX c x = [] by unfold putX; rw [hf]; rfl]
  refine Cd.enter' Tryz.func32 rfl Tryz.ntmps32 rfl ?_
  repeat' (first | ((with_reducible refine kAL ?_); (first | (refine zkD 4 rfl ?_; refine uA ?_; (try refine AL.wk (Wk.nz 4 rfl (by exact .nlt)) ?_)) | refine uK (c1) ?_ | refine uA ?_)) | refine uC ?_ | fail)
  all_goals first | (exfalso; omega) | (exact Fin.q Tryz.results32 (.cons (.tmp rfl) .nil) [])
 ·rw [hf] at c1
  obtain ⟨h0, h1, h2, ⟨h3, h4⟩, h5, h6⟩ := fitsX_iff.1 hf
  have hsh := chkC_shaped h0
  have hb := hsh.h1 h1
  have ht1 := hsh.t1
  have hcap : c.cap = (c.cap.toNat : Int) := by omega
  have e : putX c x = putD1 (putX1 x c.cap.toNat) x.done x.done.length := by unfold putX putD1 putX1; rw [if_pos hf, List.take_length]; simp
  rw [e]
  have hz : putX1 x 0 = [((x.list.map tI).length : Int)] := by unfold putX1; rw [g1]; simp [wpad]
  refine Cd.enter' Tryz.func32 rfl Tryz.ntmps32 rfl ?_
  repeat' (first | ((with_reducible refine kAL ?_); (first | refine uK (c1) ?_ | refine A_lit rfl rfl 25 1 _ rfl ud25 inf31 (.cons rfl .nil) (els := [[_]]) rfl (by exact (rfl : _ = List.map tU [_])) rfl (Nat.ne_of_beq_eq_false rfl) (Nat.le_of_ble_eq_true rfl) (Nat.le_of_ble_eq_true rfl) (.push qL qN) ?_ | refine uA ?_)) | refine uC ?_ | fail)
  all_goals first | (exfalso; omega) | skip
  refine AW.loopP (fun (j : Nat) => j ≤ c.cap.toNat) (fun (j : Nat) => (pu (pu (pu (pu (fun _ => .any) 2 (.ptr 0 0)) 3 (.ptr 1 0)) 5 (.sl 2 j (1 + j))) 6 (i64 j))) (fun (j : Nat) => [cfB c, clB x, .row j 31 1 ((putX1 x j).map tU)]) (fun (j : Nat) => c.cap.toNat - j) (0) ?_ ?_ ?_
  ·exact Nat.zero_le _
  ·rw [hz]
   exact Wk.cq 3
  ·intro j l4
   have hL2 : (putX1 x j).length = 1 + j := by unfold putX1; simp [wpad_len]; omega
   by_cases hj : j < c.cap.toNat
   ·by_cases hjb : j < x.list.length
    ·obtain ⟨y, hy⟩ : ∃ y, x.list[j]? = some y := ⟨_, List.getElem?_eq_getElem hjb⟩
     have hyb := h4 y (List.mem_of_getElem? hy)
     have hs : putX1 x (j + 1) = putX1 x j ++ [y] := by unfold putX1; rw [wpad_succ, List.getD_eq_getElem?_getD, hy]; rfl
     repeat' (first | ((with_reducible refine kAL ?_); (first | refine A_lit rfl rfl 25 1 _ rfl ud25 inf31 (.cons rfl .nil) (els := [[_]]) rfl (by exact (rfl : _ = List.map tU [_])) rfl (Nat.ne_of_beq_eq_false rfl) (Nat.le_of_ble_eq_true rfl) (Nat.le_of_ble_eq_true rfl) (.push qL qN) ?_ | refine uA ?_)) | refine uC ?_ | fail)
     all_goals first | (exfalso; omega) | skip
     refine ⟨j + 1, by omega, by omega, ?_⟩
     rw [hs]
     exact Wk.cq 3
    ·have hs : putX1 x (j + 1) = putX1 x j ++ [0] := by unfold putX1; rw [wpad_succ, getD_no hjb]; rfl
     repeat' (first | ((with_reducible refine kAL ?_); (first | refine A_lit rfl rfl 25 1 _ rfl ud25 inf31 (.cons rfl .nil) (els := [[_]]) rfl (by exact (rfl : _ = List.map tU [_])) rfl (Nat.ne_of_beq_eq_false rfl) (Nat.le_of_ble_eq_true rfl) (Nat.le_of_ble_eq_true rfl) (.push qL qN) ?_ | refine uA ?_)) | refine uC ?_ | fail)
     all_goals first | (exfalso; omega) | skip
     refine ⟨j + 1, by omega, by omega, ?_⟩
     rw [hs]
     exact Wk.cq 3
   ·obtain rfl : j = c.cap.toNat := by omega
    repeat' (first | refine uA ?_ | refine uC ?_ | fail)
    all_goals first | (exfalso; omega) | skip
    refine AW.loopP (fun (j : Nat) => j ≤ x.done.length) (fun (j : Nat) => (pu (pu (pu (pu (fun _ => .any) 5 (.sl 2 (c.cap.toNat + j) (1 + c.cap.toNat + j))) 42 (.ln (x.done.map tR))) 43 (i64 (x.done.map tR).length)) 44 (i64 j))) (fun (j : Nat) => [cfB c, clB x, .row (c.cap.toNat + j) 31 1 ((putD1 (putX1 x c.cap.toNat) x.done j).map tU)]) (fun (j : Nat) => x.done.length - j) (0) ?_ ?_ ?_
    ·exact Nat.zero_le _
    ·rw [show putD1 (putX1 x c.cap.toNat) x.done 0 = putX1 x c.cap.toNat by simp [putD1]]
     exact Wk.cq 3
    ·intro j l4
     have hL2 : (putD1 (putX1 x c.cap.toNat) x.done j).length = 1 + c.cap.toNat + j := by unfold putD1; simp; omega
     by_cases hj : j < x.done.length
     ·obtain ⟨y, hy⟩ : ∃ y, x.done[j]? = some y := ⟨_, List.getElem?_eq_getElem hj⟩
      have hs := putD1_next (M := putX1 x c.cap.toNat) hy
      repeat' (first | ((with_reducible refine kAL ?_); (first | refine A_lit rfl rfl 25 1 _ rfl ud25 inf31 (.cons rfl .nil) (els := [[_]]) rfl (by exact (rfl : _ = List.map tU [_])) rfl (Nat.ne_of_beq_eq_false rfl) (Nat.le_of_ble_eq_true rfl) (Nat.le_of_ble_eq_true rfl) (.push qL qN) ?_ | refine uK (rresult_c y) ?_ | refine uA ?_)) | refine uC ?_ | fail)
      all_goals first | (exfalso; omega) | skip
      refine ⟨j + 1, by omega, by omega, ?_⟩
      rw [hs]
      exact Wk.cq 3
     ·obtain rfl : j = x.done.length := by omega
      repeat' (first | ((with_reducible refine kAL ?_); (first | (refine zkD 4 rfl ?_; refine uA ?_; (try refine AL.wk (Wk.freeze 2 rfl 4 rfl (by exact .all (by (simp; omega))) qN) ?_)) | refine uA ?_)) | refine uC ?_ | fail)
      all_goals first | (exfalso; omega) | (exact Fin.q Tryz.results32 (.cons (.tmp rfl) .nil) [])
end
section
attribute [local irreducible] AL AW RG Fin C Cd Cio thenQ blockQ retQ
set_option maxRecDepth 100000
theorem words_c (a b : List Int) (ha : a.length ≤ 1152921504606846976) : Cd Tryz.prog 6 [.ln (a.map tU), .ln (b.map tU)] (bo (decide (a = b))) [] := by
 have h1 : (a.map tU).length = a.length := List.length_map _
 have h2 : (b.map tU).length = b.length := List.length_map _
 refine Cd.enter' Tryz.func6 rfl Tryz.ntmps6 rfl ?_
 repeat' (first | refine uA ?_ | refine uC ?_ | refine kcp rfl (fun hc => ?_) (fun hc => ?_) | fail)
 ·refine Fin.q Tryz.results6 (.cons (.tmp rfl) .nil) [] (hr := (.t ?_))
  have : a ≠ b := by rintro rfl; exact hc rfl
  simp [this]
 ·refine AW.loopP (fun (i : Nat) => ∀ j, j < i → a.getD j 0 = b.getD j 0) (fun (i : Nat) => (pu (pu (pu (pu (pu (fun _ => .any) 0 (.ln (a.map tU))) 1 (.ln (b.map tU))) 4 (.t (.v (.bool false)))) 12 (i64 (a.map tU).length)) 13 (i64 i))) (fun (i : Nat) => []) (fun (i : Nat) => a.length + 1 - i) (0) ?_ ?_ ?_
  ·intro j hj; omega
  ·exact Wk.cq 0
  ·intro i hi
   repeat' (first | refine uA ?_ | refine uR ?_ | refine uC ?_ | refine kcp rfl (fun hc => ?_) (fun hc => ?_) | refine AW.drawU (id := 6) mixed 0 qR ?_ | fail)
   ·refine Fin.q Tryz.results6 (.cons (.tmp rfl) .nil) [] (hr := (.t ?_))
    have : a ≠ b := by rintro rfl; exact hc rfl
    simp [this]
   ·refine ⟨i + 1, fun j hj => ?_, by omega, ?_⟩
    ·by_cases e : j = i
     ·subst e; exact Decidable.not_not.1 hc
     ·exact hi j (by omega)
    ·exact Wk.cq 0
   ·refine Fin.q Tryz.results6 (.cons (.tmp rfl) .nil) [] (hr := (.t ?_))
    have : a = b := all_eq (z := 0) (by omega) fun j hj => hi j (by omega)
    simp [this]
theorem words_same (a : List Int) (ha : a.length ≤ 1152921504606846976) : Cd Tryz.prog 6 [.ln (a.map tU), .ln (a.map tU)] (bo true) [] := by
 have := words_c a a ha
 rwa [decide_eq_true rfl] at this
end
section
attribute [local irreducible] AL AW RG Fin C Cd Cio thenQ blockQ retQ
set_option maxRecDepth 100000
abbrev fCh (x : DChan) : AV := .agg [i64 x.gen, i64 x.cap, bo x.used, bo x.closed, .t (.lst (x.buf.map tI))]
abbrev fWt (w : DWait) : AV := .agg [bo w.on, i64 w.ticket, i64 w.seq, .t (.lst (w.cases.map tCs))]
abbrev fHl (h : DHall) : AV := .agg [i64 h.ticket, .t (.lst (h.chans.map tCh)), .t (.lst (h.waits.map tWt)), .t (.lst (h.done.map tR))]
abbrev fCl (x : DCells) : AV := .agg [i64 x.cap, .t (.lst (x.list.map tI)), .t (.lst (x.done.map tR))]
theorem okU_at {l : List Int} (h : okU l) {i : Nat} {a : Int} (ha : l[i]? = some a) : 0 ≤ a ∧ a ≤ 18446744073709551615 := h a (List.mem_of_getElem? ha)
theorem headD_of {l : List Int} {a : Int} (h : l[0]? = some a) : l.headD 0 = a := by cases l with
 | nil => simp at h
 | cons x l => simpa using h
theorem rnext_at {l : List Int} {i : Nat} {a : Int} (ha : l[i]? = some a) (hl : l.length ≤ 1000000) : Cio Tryz.prog 56 [.ptr 0 0] [aRd (l.drop i)] (u64 a) [aRd (l.drop (i + 1))] := by
 have cN := rnext_c (l.drop i) (by simp; omega)
 rwa [drop_cons_of ha, List.headD_cons, List.drop_succ_cons, List.drop_zero, ← drop_cons_of ha] at cN
theorem rrow_n (l : List Int) (hU : okU l) (m cap : Int) (n i : Nat) (hc : cap = n) (hn : i + n ≤ l.length) (hl : l.length ≤ 1000000) (hm : -9223372036854775808 ≤ m ∧ m ≤ 9223372036854775807) :
  Cio Tryz.prog 86 [.ptr 0 0, i64 m, i64 cap] [aRd (l.drop i)] (.t (.lst ((rdRow (l.drop i) n m).map tI))) [aRd (l.drop (i + n))] := by
 subst hc
 have := rrow_c (l.drop i) (okU_drop hU i) m n (by simp; omega) (by simp; omega) hm
 rwa [List.drop_drop] at this
theorem rresR_c (l : List Int) (hU : okU l) (n : Nat) (hn : n ≤ l.length) (hl : l.length ≤ 1000000) :
  Cio Tryz.prog 59 [.ptr 0 0, i64 n] [aRd l] (.t (.lst ((rdRs l n).map tR))) [aRd (l.drop n)] := by
 have hz : rdRs l 0 = [] := by simp [rdRs]
 refine Cio.enter' Tryz.func59 rfl Tryz.ntmps59 rfl qM ?_
 repeat' (first | refine uA ?_ | refine uC ?_ | fail)
 refine AW.wk (Wk.own 5 rfl 42 4 (.push rfl rfl)) ?_
 refine AW.loopP (fun (i : Nat) => i ≤ n) (fun (i : Nat) => (pu (pu (pu (pu (fun _ => .any) 0 (.ptr 0 0)) 5 (.sl 1 i i)) 6 (i64 n)) 7 (i64 i))) (fun (i : Nat) => [aRd (l.drop i), .row i 42 4 ((rdRs l i).map tR)]) (fun (i : Nat) => n - i) (0) ?_ ?_ ?_
 ·exact Nat.zero_le _
 ·rw [hz]
  exact Wk.cq 2
 ·intro i h2
  have hL : (rdRs l i).length = i := by simp [rdRs]; omega
  by_cases hi : i < n
  ·obtain ⟨a, ha⟩ : ∃ a, l[i]? = some a := ⟨_, List.getElem?_eq_getElem (by omega)⟩
   have cN := rnext_at ha hl
   have cR := pread_c a (okU_at hU ha)
   have hs : rdRs l (i + 1) = rdRs l i ++ [readR a] := by unfold rdRs; rw [List.take_add_one, ha]; simp
   repeat' (first | ((with_reducible refine kAL ?_); (first | refine uI [0] (cN) ?_ | refine uK (cR) ?_ | refine A_lit rfl rfl 47 1 _ rfl ud47 inf42 (.cons rfl .nil) (els := [[_, _, _, _]]) rfl (by exact (rfl : _ = List.map tR [⟨_, _, _, _⟩])) rfl (Nat.ne_of_beq_eq_false rfl) (Nat.le_of_ble_eq_true rfl) (Nat.le_of_ble_eq_true rfl) (.push qL qN) ?_ | refine uA ?_)) | refine uC ?_ | fail)
   all_goals first | (exfalso; omega) | skip
   refine ⟨i + 1, by omega, by omega, ?_⟩
   rw [hs]
   exact Wk.cq 2
  ·obtain rfl : i = n := by omega
   repeat' (first | ((with_reducible refine kAL ?_); (first | (refine zkD 4 rfl ?_; refine uA ?_; (try refine AL.wk (Wk.freeze 1 rfl 4 rfl (by exact .all (by (simp; omega))) qN) ?_)) | refine uA ?_)) | refine uC ?_ | fail)
   all_goals first | (exfalso; omega) | (exact Fin.q Tryz.results59 (.cons (.tmp rfl) .nil) [])
theorem rresR_n (l : List Int) (hU : okU l) (th : Int) (n i : Nat) (hc : th = n) (hn : i + n ≤ l.length) (hl : l.length ≤ 1000000) :
  Cio Tryz.prog 59 [.ptr 0 0, i64 th] [aRd (l.drop i)] (.t (.lst ((rdRs (l.drop i) n).map tR))) [aRd (l.drop (i + n))] := by
 subst hc
 have := rresR_c (l.drop i) (okU_drop hU i) n (by simp; omega) (by simp; omega)
 rwa [List.drop_drop] at this
theorem rchan_c (c : DConf) (n : Nat) (hc : c.cap = n) (l : List Int) (hU : okU l) (i : Nat) (hn : i + (n + 1) ≤ l.length) (hl : l.length ≤ 1000000) :
  Cio Tryz.prog 57 [.ptr 0 0, aCf c] [aRd (l.drop i)] (fCh (rdC n (l.drop i))) [aRd (l.drop (i + (n + 1)))] := by
 obtain ⟨a, ha⟩ : ∃ a, l[i]? = some a := ⟨_, List.getElem?_eq_getElem (by omega)⟩
 have hb := okU_at hU ha
 have cN := rnext_at ha hl
 have cR := rrow_n l hU (a / 1048576 % 16) c.cap n (i + 1) hc (by omega) hl (by omega)
 have e0 : (l.drop i).headD 0 = a := by rw [drop_cons_of ha]; rfl
 unfold rdC
 rw [e0, List.drop_drop, show i + (n + 1) = i + 1 + n by omega]
 refine Cio.enter' Tryz.func57 rfl Tryz.ntmps57 rfl qM ?_
 repeat' (first | ((with_reducible refine kAL ?_); (first | refine uI [0] (cN) ?_ | refine A_bits rfl rfl .and 31 31 _ _ rfl rfl rfl rfl (and_lit 12 (M := 4096) rfl rfl (by omega) (by omega) (by omega)) ?_ | refine A_shr rfl rfl 31 97 _ _ rfl rfl rfl (by decide) (fdiv_lit (m := 4096) rfl (by decide)) ?_ | refine A_bits rfl rfl .and 31 31 _ _ rfl rfl rfl rfl (and_lit 4 (M := 16) rfl rfl (by omega) (by omega) (by omega)) ?_ | refine A_shr rfl rfl 31 97 _ _ rfl rfl rfl (by decide) (fdiv_lit (m := 65536) rfl (by decide)) ?_ | refine A_bits rfl rfl .and 31 31 _ _ rfl rfl rfl rfl (and_lit 1 (M := 2) rfl rfl (by omega) (by omega) (by omega)) ?_ | refine A_shr rfl rfl 31 97 _ _ rfl rfl rfl (by decide) (fdiv_lit (m := 131072) rfl (by decide)) ?_ | refine A_shr rfl rfl 31 97 _ _ rfl rfl rfl (by decide) (fdiv_lit (m := 1048576) rfl (by decide)) ?_ | refine uI [0] (cR) ?_ | refine uA ?_)) | refine uC ?_ | fail)
 all_goals first | (exfalso; omega) | (exact Fin.q Tryz.results57 (.cons (.agg rfl rfl ud87 rfl inf87 (us := [_, _, _, _, _]) rfl rfl) .nil) [])
def rdKs (l : List Int) (i : Nat) (m : Int) : List DCase := (l.take (min m.toNat i)).map rdK
theorem rdKs_succ {l : List Int} {i : Nat} {a m : Int} (ha : l[i]? = some a) (h : (i : Int) < m) : rdKs l (i + 1) m = rdKs l i m ++ [rdK a] := by
 unfold rdKs
 rw [show min m.toNat (i + 1) = i + 1 by omega, show min m.toNat i = i by omega, List.take_add_one, ha]; simp
theorem rdKs_stop {l : List Int} {i : Nat} {m : Int} (h : ¬ (i : Int) < m) : rdKs l (i + 1) m = rdKs l i m := by
 unfold rdKs
 rw [show min m.toNat (i + 1) = m.toNat by omega, show min m.toNat i = m.toNat by omega]
theorem rwait_c (l : List Int) (hU : okU l) (i0 : Nat) (hn : i0 + 4 ≤ l.length) (hl : l.length ≤ 1000000) :
  Cio Tryz.prog 58 [.ptr 0 0] [aRd (l.drop i0)] (fWt (rdW (l.drop i0))) [aRd (l.drop (i0 + 4))] := by
 obtain ⟨a, ha⟩ : ∃ a, l[i0]? = some a := ⟨_, List.getElem?_eq_getElem (by omega)⟩
 have hb := okU_at hU ha
 have cN := rnext_at ha hl
 have e0 : (l.drop i0).headD 0 = a := by rw [drop_cons_of ha]; rfl
 have e1 : (((l.drop i0).drop 1).take 3).take (a / 2 % 8).toNat = (l.drop (i0 + 1)).take (min (a / 2 % 8).toNat 3) := by rw [List.drop_drop, List.take_take]
 unfold rdW
 rw [e0, e1]
 have hz : rdKs (l.drop (i0 + 1)) 0 (a / 2 % 8) = [] := by simp [rdKs]
 refine Cio.enter' Tryz.func58 rfl Tryz.ntmps58 rfl qM ?_
 repeat' (first | ((with_reducible refine kAL ?_); (first | refine uI [0] (cN) ?_ | refine A_bits rfl rfl .and 31 31 _ _ rfl rfl rfl rfl (and_lit 1 (M := 2) rfl rfl (by omega) (by omega) (by omega)) ?_ | refine A_shr rfl rfl 31 97 _ _ rfl rfl rfl (by decide) (fdiv_lit (m := 16) rfl (by decide)) ?_ | refine A_bits rfl rfl .and 31 31 _ _ rfl rfl rfl rfl (and_lit 20 (M := 1048576) rfl rfl (by omega) (by omega) (by omega)) ?_ | refine A_shr rfl rfl 31 97 _ _ rfl rfl rfl (by decide) (fdiv_lit (m := 4294967296) rfl (by decide)) ?_ | refine A_shr rfl rfl 31 97 _ _ rfl rfl rfl (by decide) (fdiv_lit (m := 2) rfl (by decide)) ?_ | refine A_bits rfl rfl .and 31 31 _ _ rfl rfl rfl rfl (and_lit 3 (M := 8) rfl rfl (by omega) (by omega) (by omega)) ?_ | refine uA ?_)) | refine uC ?_ | fail)
 all_goals first | (exfalso; omega) | skip
 refine AW.wk (Wk.ownB 2 3 rfl rfl 72 3 (.push rfl rfl) rfl) ?_
 refine AW.loopP (fun (x : Nat × Nat × Nat) => x.1 ≤ 3 ∧ x.2.2 = (rdKs (l.drop (i0 + 1)) x.1 (a / 2 % 8)).length) (fun (x : Nat × Nat × Nat) => (pu (pu (pu (pu (pu (fun _ => .any) 0 (.ptr 0 0)) 2 (.ptr 1 0)) 4 (.ptr 2 0)) 5 (i64 (a / 2 % 8))) 25 (i64 x.1))) (fun (x : Nat × Nat × Nat) => [aRd (l.drop (i0 + 1 + x.1)), .box 90 [bo false, i64 0, i64 0, .nl], .box 90 [bo (decide (a % 2 = 1)), i64 (a / 4294967296), i64 (a / 16 % 1048576), .sl 3 x.2.1 x.2.2], .row x.2.1 72 3 ((rdKs (l.drop (i0 + 1)) x.1 (a / 2 % 8)).map tCs)]) (fun (x : Nat × Nat × Nat) => 3 - x.1) ((0, 0, 0)) ?_ ?_ ?_
 ·exact ⟨Nat.zero_le _, by rw [hz]; rfl⟩
 ·dsimp only
  rw [hz]
  exact Wk.cq 4
 ·rintro ⟨i, k, c⟩ ⟨h2, h3⟩
  dsimp only at h2 h3 ⊢
  have hR : (rdKs (l.drop (i0 + 1)) i (a / 2 % 8)).length ≤ i := by simp [rdKs]; omega
  by_cases hi : i < 3
  ·obtain ⟨b, hb1⟩ : ∃ b, l[i0 + 1 + i]? = some b := ⟨_, List.getElem?_eq_getElem (by omega)⟩
   have hb2 : (l.drop (i0 + 1))[i]? = some b := by rw [List.getElem?_drop]; exact hb1
   have hbb := okU_at hU hb1
   have cN := rnext_at hb1 hl
   by_cases hk : (i : Int) < a / 2 % 8
   ·have hs : rdKs (l.drop (i0 + 1)) (i + 1) (a / 2 % 8) = rdKs (l.drop (i0 + 1)) i (a / 2 % 8) ++ [⟨b % 256, b / 256 % 65536, b / 4294967296⟩] := rdKs_succ hb2 hk
    repeat' (first | ((with_reducible refine kAL ?_); (first | refine uI [0] (cN) ?_ | refine A_shr rfl rfl 31 97 _ _ rfl rfl rfl (by decide) (fdiv_lit (m := 4294967296) rfl (by decide)) ?_ | refine A_bits rfl rfl .and 31 31 _ _ rfl rfl rfl rfl (and_lit 8 (M := 256) rfl rfl (by omega) (by omega) (by omega)) ?_ | refine A_shr rfl rfl 31 97 _ _ rfl rfl rfl (by decide) (fdiv_lit (m := 256) rfl (by decide)) ?_ | refine A_bits rfl rfl .and 31 31 _ _ rfl rfl rfl rfl (and_lit 16 (M := 65536) rfl rfl (by omega) (by omega) (by omega)) ?_ | refine A_lit rfl rfl 26 1 _ rfl ud26 inf72 (.cons rfl .nil) (els := [[_, _, _]]) rfl (by exact (rfl : _ = List.map tCs [⟨_, _, _⟩])) rfl (Nat.ne_of_beq_eq_false rfl) (Nat.le_of_ble_eq_true rfl) (Nat.le_of_ble_eq_true rfl) (.push qL qN) ?_ | refine uA ?_)) | refine uC ?_ | fail)
    all_goals first | (exfalso; omega) | skip
    refine ⟨(i + 1, k + 1, c + 1), ⟨by dsimp only; omega, by dsimp only; rw [hs]; simp; omega⟩, by dsimp only; omega, ?_⟩
    rw [hs]
    exact Wk.cq 4
   ·have hs : rdKs (l.drop (i0 + 1)) (i + 1) (a / 2 % 8) = rdKs (l.drop (i0 + 1)) i (a / 2 % 8) := rdKs_stop hk
    repeat' (first | ((with_reducible refine kAL ?_); (first | refine uI [0] (cN) ?_ | refine uA ?_)) | refine uC ?_ | fail)
    all_goals first | (exfalso; omega) | skip
    refine ⟨(i + 1, k, c), ⟨by dsimp only; omega, by dsimp only; rw [hs]; exact h3⟩, by dsimp only; omega, ?_⟩
    rw [hs]
    exact Wk.cq 4
  ·obtain rfl : i = 3 := by omega
   subst h3
   refine AW.wk (Wk.freezeB 3 rfl 2 rfl (.cons (by first | exact .all (by first | rfl | (simp <;> fail) | (simp; omega)) | exact .nlt | exact .same _) (.cons (by first | exact .all (by first | rfl | (simp <;> fail) | (simp; omega)) | exact .nlt | exact .same _) (.cons (by first | exact .all (by first | rfl | (simp <;> fail) | (simp; omega)) | exact .nlt | exact .same _) (.cons (by first | exact .all (by first | rfl | (simp <;> fail) | (simp; omega)) | exact .nlt | exact .same _) (.nil))))) rfl) ?_
   repeat' (first | refine uA ?_ | refine uC ?_ | fail)
   all_goals first | (exfalso; omega) | (exact Fin.q Tryz.results58 (.cons (.agg rfl rfl ud90 rfl inf90 (us := [_, _, _, _]) rfl rfl) .nil) [])
end
end Go.Proofs.YtbpgopomninedaaGreat
