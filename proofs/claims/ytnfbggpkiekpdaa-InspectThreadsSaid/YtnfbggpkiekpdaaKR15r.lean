/- Joined: XTPutR, XTStartG, XTStartO. -/
import Derived.Test.YtnfbggpkiekpdaaKR15h
import Derived.Test.YtnfbggpkiekpdaaKR15o
import Derived.Test.YtnfbggpkiekpdaaKR15q
import Derived.Test.YtnfbggpkiekpdaaKR15l
namespace Go.Proofs.Ytnfbggpkiekpdaa
open Go.RowKit
set_option linter.unusedVariables false
set_option linter.unusedSimpArgs false
set_option linter.unnecessarySimpa false
set_option maxRecDepth 100000
set_option maxHeartbeats 64000000
section
attribute [local irreducible] AL AW RG Fin C Cd Cio thenQ blockQ retQ
set_option maxRecDepth 100000
theorem bit_c (b : Bool) : Cd Try.prog 118 [bo b] (u64 (bitI b)) [] := by
 cases b
 all_goals
  refine Cd.enter' Try.func118 rfl Try.ntmps118 rfl ?_
  repeat' (first | refine uA ?_ | refine uC ?_ | fail)
  all_goals (exact Fin.q Try.results118 (.cons (.tmp rfl) .nil) [])
def putA1 (c : DConf) (h : DHall) (i : Nat) (a : DChan) (j : Nat) : List Int := (putA c h i ++ [headC a]) ++ wpad a.buf j
def putB1 (c : DConf) (h : DHall) (i : Nat) (a : DWait) (j : Nat) : List Int := (putB c h i ++ [headW a]) ++ wpad (a.cases.map wordK) j
def putD1 (M : List Int) (l : List Rst) (i : Nat) : List Int := M ++ (l.take i).map wordR
theorem putA1_next {c : DConf} {h : DHall} {i : Nat} {a : DChan} {j : Nat} {x : Int} (hx : a.buf.getD j 0 = x) : putA1 c h i a (j + 1) = putA1 c h i a j ++ [x] := by subst hx; unfold putA1; rw [wpad_succ]; simp
theorem putB1_next {c : DConf} {h : DHall} {i : Nat} {a : DWait} {j : Nat} {x : Int} (hx : (a.cases.map wordK).getD j 0 = x) : putB1 c h i a (j + 1) = putB1 c h i a j ++ [x] := by subst hx; unfold putB1; rw [wpad_succ]; simp
theorem putD1_next {M : List Int} {l : List Rst} {i : Nat} {a : Rst} (ha : l[i]? = some a) : putD1 M l (i + 1) = putD1 M l i ++ [wordR a] := by unfold putD1; rw [List.take_add_one, ha]; simp
theorem getD_no {α : Type} {l : List α} {n : Nat} {d : α} (h : ¬ n < l.length) : l.getD n d = d := by rw [List.getD_eq_getElem?_getD, List.getElem?_eq_none (by omega)]; rfl
theorem rputH_c (c : DConf) (h : DHall) (hs : c.start.length ≤ 1152921504606846976) (hh : okH h) : Cd Try.prog 104 [aCf c, aHl h] (.t (.lst ((putH c h).map tU))) [] := by
 have c1 := rfitsH_c c h hs hh
 have g1 : (h.chans.map tCh).length = h.chans.length := List.length_map _
 have g2 : (h.waits.map tWt).length = h.waits.length := List.length_map _
 have g3 : (h.done.map tR).length = h.done.length := List.length_map _
 cases hf : fitsH c h
 ·rw [hf] at c1
  rw [show putH c h = [] by unfold putH; rw [hf]; rfl]
  refine Cd.enter' Try.func104 rfl Try.ntmps104 rfl ?_
  repeat' (first | ((with_reducible refine kAL ?_); (first | (refine kL 1 rfl ?_; first | ((first | refine A_as (d := 4) rfl rfl rfl rfl ?_ | refine A_move (d := 4) rfl rfl _ (.inr rfl) (y := .sl _ _ _) rfl ?_ | refine A_move (d := 4) rfl rfl _ (.inr rfl) (y := .nl) rfl ?_ | refine A_move (d := 4) rfl rfl _ (.inr rfl) (y := .ptr _ _) rfl ?_ | refine A_move (d := 4) rfl rfl _ (.inr rfl) (y := .ln _) rfl ?_ | refine A_move (d := 4) rfl rfl _ (.inr rfl) (y := .lp _) rfl ?_ | refine A_move (d := 4) rfl rfl _ (.inr rfl) (y := .fn _ _ _) rfl ?_ | refine A_move (d := 4) rfl rfl _ (.inr rfl) (y := .sub _ _ _ _) rfl ?_ | refine A_move (d := 4) rfl rfl _ (.inr rfl) (y := .rp _ _ _ _) rfl ?_ | refine A_move (d := 4) rfl rfl _ (.inr rfl) (y := .agg _) rfl ?_ | refine A_move (d := 4) rfl rfl _ (.inr rfl) (y := .tup _) rfl ?_); (try refine uz 4 ?_))) | (refine kL 3754 rfl ?_; first | refine uK (c1) ?_) | (refine kL 815 rfl ?_; first | refine A_lit rfl rfl 25 1 _ rfl ud25 inf69 (.cons rfl .nil) (els := [[_]]) rfl (by first | exact qN) rfl (Nat.ne_of_beq_eq_false rfl) (Nat.le_of_ble_eq_true rfl) (Nat.le_of_ble_eq_true rfl) (.push qL qN) ?_) | (refine kL 12 rfl ?_; first | refine A_append_nlsub rfl rfl _ _ 25 rfl ud25 inf69 rfl rfl rfl rfl (by (try simp only [List.length_map, List.length_append, List.length_cons, List.length_nil]); omega) qB qB List.map_drop.symm (.push qL qN) ?_) | refine uA ?_)) | ((with_reducible refine kRG ?_); (first | (refine kR 815 rfl ?_; first | refine R_lit rfl rfl 25 1 _ rfl ud25 inf69 (.cons rfl .nil) (els := [[_]]) rfl (by first | exact qN) rfl (Nat.ne_of_beq_eq_false rfl) (Nat.le_of_ble_eq_true rfl) (Nat.le_of_ble_eq_true rfl) qh qN ?_) | refine uR ?_)) | refine uC ?_ | refine kcp rfl (fun hc => ?_) (fun hc => ?_) | refine kcn rfl (fun hc => ?_) (fun hc => ?_) | refine kcb rfl (fun hc => ?_) (fun hc => ?_) | refine kcc rfl (fun hc => ?_) (fun hc => ?_) | refine AW.drawU (id := 7) mixed 6 qR ?_ | refine AW.drawU (id := 18) mixed 4 qR ?_ | fail)
  all_goals first | (exfalso; omega) | (exact Fin.q Try.results104 (.cons (.tmp rfl) .nil) [])
 ·rw [hf] at c1
  obtain ⟨h0, h1, h2, h3, h4, ⟨h5, h6⟩, h7, h8⟩ := fitsH_iff.1 hf
  have hsh := chkC_shaped h0
  have hb := hsh.h3 h1
  have ht1 := hsh.t1
  have hcap : c.cap = (c.cap.toNat : Int) := by omega
  have hmul : ∀ i, i ≤ h.chans.length → i * (c.cap.toNat + 1) ≤ 72 := fun i hi => Nat.le_trans (Nat.mul_le_mul (show i ≤ 8 by omega) (show c.cap.toNat + 1 ≤ 9 by omega)) (by decide)
  rw [← putB_end hf]
  refine Cd.enter' Try.func104 rfl Try.ntmps104 rfl ?_
  repeat' (first | ((with_reducible refine kAL ?_); (first | (refine kL 3754 rfl ?_; first | refine uK (c1) ?_) | (refine kL 815 rfl ?_; first | refine A_lit rfl rfl 25 1 _ rfl ud25 inf69 (.cons rfl .nil) (els := [[_]]) rfl (by first | exact (rfl : _ = List.map tU [_]) | exact qN) rfl (Nat.ne_of_beq_eq_false rfl) (Nat.le_of_ble_eq_true rfl) (Nat.le_of_ble_eq_true rfl) (.push qL qN) ?_) | (refine kL 12 rfl ?_; first | refine A_append_nlsub rfl rfl _ _ 25 rfl ud25 inf69 rfl rfl rfl rfl (by (try simp only [List.length_map, List.length_append, List.length_cons, List.length_nil]); omega) qB qB List.map_drop.symm (.push qL qN) ?_) | refine uA ?_)) | ((with_reducible refine kRG ?_); (first | (refine kR 815 rfl ?_; first | refine R_lit rfl rfl 25 1 _ rfl ud25 inf69 (.cons rfl .nil) (els := [[_]]) rfl (by first | exact (rfl : _ = List.map tU [_]) | exact qN) rfl (Nat.ne_of_beq_eq_false rfl) (Nat.le_of_ble_eq_true rfl) (Nat.le_of_ble_eq_true rfl) qh qN ?_) | refine uR ?_)) | refine uC ?_ | refine kcp rfl (fun hc => ?_) (fun hc => ?_) | refine kcn rfl (fun hc => ?_) (fun hc => ?_) | refine kcb rfl (fun hc => ?_) (fun hc => ?_) | refine kcc rfl (fun hc => ?_) (fun hc => ?_) | refine AW.drawU (id := 7) mixed 6 qR ?_ | refine AW.drawU (id := 18) mixed 4 qR ?_ | fail)
  all_goals first | (exfalso; omega) | skip
  refine AW.loopP (fun (x : Nat × Nat × Nat) => x.1 ≤ h.chans.length ∧ x.2.2 = (putA c h x.1).length) (fun (x : Nat × Nat × Nat) => (pu (pu (pu (pu (pu (pu (fun _ => .any) 2 (.ptr 0 0)) 3 (.ptr 1 0)) 5 (.sl 2 x.2.1 x.2.2)) 24 (.ln (h.chans.map tCh))) 25 (i64 (h.chans.map tCh).length)) 26 (i64 x.1))) (fun (x : Nat × Nat × Nat) => [cfB c, hlB h, .row x.2.1 69 1 ((putA c h x.1).map tU)]) (fun (x : Nat × Nat × Nat) => h.chans.length - x.1) ((0, 0, 1)) ?_ ?_ ?_
  ·exact ⟨Nat.zero_le _, rfl⟩
  ·exact Wk.cq 3
  ·rintro ⟨i, k, m⟩ ⟨l2, l3⟩
   dsimp only at l2 l3 ⊢
   have hL := putA_len (c := c) l2
   have hM := hmul i l2
   by_cases hi : i < h.chans.length
   ·obtain ⟨a, ha⟩ : ∃ a, h.chans[i]? = some a := ⟨_, List.getElem?_eq_getElem hi⟩
    have hOK := h7 a (List.mem_of_getElem? ha)
    obtain ⟨q1, q2, ⟨q3, q4⟩, _⟩ := chanOK_iff.1 hOK
    have b1 := bitI_b a.used
    have b2 := bitI_b a.closed
    have k1 := bit_c a.used
    have k2 := bit_c a.closed
    have g4 : (a.buf.map tI).length = a.buf.length := List.length_map _
    have hw : headC a = a.gen + 4096 * a.cap + 65536 * bitI a.used + 131072 * bitI a.closed + 1048576 * ((a.buf.map tI).length : Int) := by unfold headC; omega
    have hs := putA_next (c := c) ha
    have hz : putA1 c h i a 0 = putA c h i ++ [a.gen + 4096 * a.cap + 65536 * bitI a.used + 131072 * bitI a.closed + 1048576 * ((a.buf.map tI).length : Int)] := by unfold putA1; rw [← hw]; simp [wpad]
    repeat' (first | ((with_reducible refine kAL ?_); (first | (refine kL 815 rfl ?_; first | refine A_lit rfl rfl 25 1 _ rfl ud25 inf69 (.cons rfl .nil) (els := [[_]]) rfl (by first | exact (rfl : _ = List.map tU [_]) | exact qN) rfl (Nat.ne_of_beq_eq_false rfl) (Nat.le_of_ble_eq_true rfl) (Nat.le_of_ble_eq_true rfl) (.push qL qN) ?_) | (refine kL 12 rfl ?_; first | refine A_append_nlsub rfl rfl _ _ 25 rfl ud25 inf69 rfl rfl rfl rfl (by (try simp only [List.length_map, List.length_append, List.length_cons, List.length_nil]); omega) qB qB List.map_drop.symm (.push qL qN) ?_) | refine uA ?_)) | ((with_reducible refine kRG ?_); (first | (refine kR 3786 rfl ?_; first | (first | refine uQ (k1) 0 ?_ | refine uQ (k1) 1 ?_ | refine uQ (k1) 2 ?_ | refine uQ (k1) 3 ?_ | refine uQ (k1) 4 ?_ | refine uQ (k1) 5 ?_ | refine uQ (k1) 6 ?_ | refine uQ (k1) 7 ?_ | refine uQ (k1) 8 ?_ | refine uQ (k1) 9 ?_ | refine uQ (k1) 10 ?_ | refine uQ (k1) 11 ?_ | refine uQ (k1) 12 ?_ | refine uQ (k1) 13 ?_) | (first | refine uQ (k2) 0 ?_ | refine uQ (k2) 1 ?_ | refine uQ (k2) 2 ?_ | refine uQ (k2) 3 ?_ | refine uQ (k2) 4 ?_ | refine uQ (k2) 5 ?_ | refine uQ (k2) 6 ?_ | refine uQ (k2) 7 ?_ | refine uQ (k2) 8 ?_ | refine uQ (k2) 9 ?_ | refine uQ (k2) 10 ?_ | refine uQ (k2) 11 ?_ | refine uQ (k2) 12 ?_ | refine uQ (k2) 13 ?_)) | (refine kR 815 rfl ?_; first | refine R_lit rfl rfl 25 1 _ rfl ud25 inf69 (.cons rfl .nil) (els := [[_]]) rfl (by first | exact (rfl : _ = List.map tU [_]) | exact qN) rfl (Nat.ne_of_beq_eq_false rfl) (Nat.le_of_ble_eq_true rfl) (Nat.le_of_ble_eq_true rfl) qh qN ?_) | refine uR ?_)) | refine uC ?_ | refine kcp rfl (fun hc => ?_) (fun hc => ?_) | refine kcn rfl (fun hc => ?_) (fun hc => ?_) | refine kcb rfl (fun hc => ?_) (fun hc => ?_) | refine kcc rfl (fun hc => ?_) (fun hc => ?_) | refine AW.drawU (id := 7) mixed 2 qR ?_ | refine AW.drawU (id := 18) mixed 2 qR ?_ | fail)
    all_goals first | (exfalso; omega) | skip
    refine AW.loopP (fun (j : Nat) => j ≤ c.cap.toNat) (fun (j : Nat) => (pu (pu (pu (pu (pu (pu (pu (pu (fun _ => .any) 2 (.ptr 0 0)) 3 (.ptr 1 0)) 5 (.sl 2 (k + 1 + j) (m + 1 + j))) 7 (.ptr 3 0)) 8 (i64 j)) 24 (.ln (h.chans.map tCh))) 25 (i64 (h.chans.map tCh).length)) 26 (i64 i))) (fun (j : Nat) => [cfB c, hlB h, .row (k + 1 + j) 69 1 ((putA1 c h i a j).map tU), .box 125 [i64 a.gen, i64 a.cap, bo a.used, bo a.closed, .t (.lst (a.buf.map tI))]]) (fun (j : Nat) => c.cap.toNat - j) (0) ?_ ?_ ?_
    ·exact Nat.zero_le _
    ·rw [hz]
     exact Wk.cq 4
    ·intro j l4
     have hL2 : (putA1 c h i a j).length = m + 1 + j := by unfold putA1; simp [wpad_len]; omega
     by_cases hj : j < c.cap.toNat
     ·by_cases hjb : j < a.buf.length
      ·obtain ⟨y, hy⟩ : ∃ y, a.buf[j]? = some y := ⟨_, List.getElem?_eq_getElem hjb⟩
       have hyb := q4 y (List.mem_of_getElem? hy)
       have hs := putA1_next (c := c) (h := h) (i := i) (a := a) (j := j) (x := y) (by rw [List.getD_eq_getElem?_getD, hy]; rfl)
       repeat' (first | ((with_reducible refine kAL ?_); (first | (refine kL 815 rfl ?_; first | refine A_lit rfl rfl 25 1 _ rfl ud25 inf69 (.cons rfl .nil) (els := [[_]]) rfl (by first | exact (rfl : _ = List.map tU [_]) | exact qN) rfl (Nat.ne_of_beq_eq_false rfl) (Nat.le_of_ble_eq_true rfl) (Nat.le_of_ble_eq_true rfl) (.push qL qN) ?_) | (refine kL 12 rfl ?_; first | refine A_append_nlsub rfl rfl _ _ 25 rfl ud25 inf69 rfl rfl rfl rfl (by (try simp only [List.length_map, List.length_append, List.length_cons, List.length_nil]); omega) qB qB List.map_drop.symm (.push qL qN) ?_) | refine uA ?_)) | ((with_reducible refine kRG ?_); (first | (refine kR 815 rfl ?_; first | refine R_lit rfl rfl 25 1 _ rfl ud25 inf69 (.cons rfl .nil) (els := [[_]]) rfl (by first | exact (rfl : _ = List.map tU [_]) | exact qN) rfl (Nat.ne_of_beq_eq_false rfl) (Nat.le_of_ble_eq_true rfl) (Nat.le_of_ble_eq_true rfl) qh qN ?_) | refine uR ?_)) | refine uC ?_ | refine kcp rfl (fun hc => ?_) (fun hc => ?_) | refine kcn rfl (fun hc => ?_) (fun hc => ?_) | refine kcb rfl (fun hc => ?_) (fun hc => ?_) | refine kcc rfl (fun hc => ?_) (fun hc => ?_) | refine AW.drawU (id := 7) mixed 6 qR ?_ | refine AW.drawU (id := 18) mixed 4 qR ?_ | fail)
       all_goals first | (exfalso; omega) | skip
       refine ⟨j + 1, by omega, by omega, ?_⟩
       rw [hs]
       exact Wk.cq 4
      ·have hs := putA1_next (c := c) (h := h) (i := i) (a := a) (j := j) (x := 0) (getD_no hjb)
       repeat' (first | ((with_reducible refine kAL ?_); (first | (refine kL 815 rfl ?_; first | refine A_lit rfl rfl 25 1 _ rfl ud25 inf69 (.cons rfl .nil) (els := [[_]]) rfl (by first | exact (rfl : _ = List.map tU [_]) | exact qN) rfl (Nat.ne_of_beq_eq_false rfl) (Nat.le_of_ble_eq_true rfl) (Nat.le_of_ble_eq_true rfl) (.push qL qN) ?_) | (refine kL 12 rfl ?_; first | refine A_append_nlsub rfl rfl _ _ 25 rfl ud25 inf69 rfl rfl rfl rfl (by (try simp only [List.length_map, List.length_append, List.length_cons, List.length_nil]); omega) qB qB List.map_drop.symm (.push qL qN) ?_) | refine uA ?_)) | ((with_reducible refine kRG ?_); (first | (refine kR 815 rfl ?_; first | refine R_lit rfl rfl 25 1 _ rfl ud25 inf69 (.cons rfl .nil) (els := [[_]]) rfl (by first | exact (rfl : _ = List.map tU [_]) | exact qN) rfl (Nat.ne_of_beq_eq_false rfl) (Nat.le_of_ble_eq_true rfl) (Nat.le_of_ble_eq_true rfl) qh qN ?_) | refine uR ?_)) | refine uC ?_ | refine kcp rfl (fun hc => ?_) (fun hc => ?_) | refine kcn rfl (fun hc => ?_) (fun hc => ?_) | refine kcb rfl (fun hc => ?_) (fun hc => ?_) | refine kcc rfl (fun hc => ?_) (fun hc => ?_) | refine AW.drawU (id := 7) mixed 6 qR ?_ | refine AW.drawU (id := 18) mixed 4 qR ?_ | fail)
       all_goals first | (exfalso; omega) | skip
       refine ⟨j + 1, by omega, by omega, ?_⟩
       rw [hs]
       exact Wk.cq 4
     ·obtain rfl : j = c.cap.toNat := by omega
      repeat' (first | ((with_reducible refine kAL ?_); (first | (refine kL 815 rfl ?_; first | refine A_lit rfl rfl 25 1 _ rfl ud25 inf69 (.cons rfl .nil) (els := [[_]]) rfl (by first | exact qN) rfl (Nat.ne_of_beq_eq_false rfl) (Nat.le_of_ble_eq_true rfl) (Nat.le_of_ble_eq_true rfl) (.push qL qN) ?_) | (refine kL 12 rfl ?_; first | refine A_append_nlsub rfl rfl _ _ 25 rfl ud25 inf69 rfl rfl rfl rfl (by (try simp only [List.length_map, List.length_append, List.length_cons, List.length_nil]); omega) qB qB List.map_drop.symm (.push qL qN) ?_) | refine uA ?_)) | ((with_reducible refine kRG ?_); (first | (refine kR 815 rfl ?_; first | refine R_lit rfl rfl 25 1 _ rfl ud25 inf69 (.cons rfl .nil) (els := [[_]]) rfl (by first | exact qN) rfl (Nat.ne_of_beq_eq_false rfl) (Nat.le_of_ble_eq_true rfl) (Nat.le_of_ble_eq_true rfl) qh qN ?_) | refine uR ?_)) | refine uC ?_ | refine kcp rfl (fun hc => ?_) (fun hc => ?_) | refine kcn rfl (fun hc => ?_) (fun hc => ?_) | refine kcb rfl (fun hc => ?_) (fun hc => ?_) | refine kcc rfl (fun hc => ?_) (fun hc => ?_) | refine AW.drawU (id := 7) mixed 6 qR ?_ | refine AW.drawU (id := 18) mixed 4 qR ?_ | fail)
      all_goals first | (exfalso; omega) | skip
      refine ⟨(i + 1, k + 1 + c.cap.toNat, m + 1 + c.cap.toNat), ⟨by dsimp only; omega, by dsimp only; rw [hs]; simp [wpad_len]; omega⟩, by dsimp only; omega, ?_⟩
      rw [show putA c h (i + 1) = putA1 c h i a c.cap.toNat from hs]
      exact Wk.cq 3
   ·obtain rfl : i = h.chans.length := by omega
    rw [putA_end] at l3 ⊢
    repeat' (first | ((with_reducible refine kAL ?_); (first | (refine kL 815 rfl ?_; first | refine A_lit rfl rfl 25 1 _ rfl ud25 inf69 (.cons rfl .nil) (els := [[_]]) rfl (by first | exact qN) rfl (Nat.ne_of_beq_eq_false rfl) (Nat.le_of_ble_eq_true rfl) (Nat.le_of_ble_eq_true rfl) (.push qL qN) ?_) | (refine kL 12 rfl ?_; first | refine A_append_nlsub rfl rfl _ _ 25 rfl ud25 inf69 rfl rfl rfl rfl (by (try simp only [List.length_map, List.length_append, List.length_cons, List.length_nil]); omega) qB qB List.map_drop.symm (.push qL qN) ?_) | refine uA ?_)) | ((with_reducible refine kRG ?_); (first | (refine kR 815 rfl ?_; first | refine R_lit rfl rfl 25 1 _ rfl ud25 inf69 (.cons rfl .nil) (els := [[_]]) rfl (by first | exact qN) rfl (Nat.ne_of_beq_eq_false rfl) (Nat.le_of_ble_eq_true rfl) (Nat.le_of_ble_eq_true rfl) qh qN ?_) | refine uR ?_)) | refine uC ?_ | refine kcp rfl (fun hc => ?_) (fun hc => ?_) | refine kcn rfl (fun hc => ?_) (fun hc => ?_) | refine kcb rfl (fun hc => ?_) (fun hc => ?_) | refine kcc rfl (fun hc => ?_) (fun hc => ?_) | refine AW.drawU (id := 7) mixed 6 qR ?_ | refine AW.drawU (id := 18) mixed 4 qR ?_ | fail)
    all_goals first | (exfalso; omega) | skip
    refine AW.loopP (fun (x : Nat × Nat × Nat) => x.1 ≤ h.waits.length ∧ x.2.2 = (putB c h x.1).length) (fun (x : Nat × Nat × Nat) => (pu (pu (pu (pu (pu (pu (fun _ => .any) 2 (.ptr 0 0)) 3 (.ptr 1 0)) 5 (.sl 2 x.2.1 x.2.2)) 82 (.ln (h.waits.map tWt))) 83 (i64 (h.waits.map tWt).length)) 84 (i64 x.1))) (fun (x : Nat × Nat × Nat) => [cfB c, hlB h, .row x.2.1 69 1 ((putB c h x.1).map tU)]) (fun (x : Nat × Nat × Nat) => h.waits.length - x.1) ((0, k, m)) ?_ ?_ ?_
    ·exact ⟨Nat.zero_le _, l3⟩
    ·exact Wk.cq 3
    ·rintro ⟨i, k, m⟩ ⟨l2, l3⟩
     dsimp only at l2 l3 ⊢
     have hL := putB_len (c := c) l2
     have hM := hmul _ (Nat.le_refl _)
     by_cases hi : i < h.waits.length
     ·obtain ⟨a, ha⟩ : ∃ a, h.waits[i]? = some a := ⟨_, List.getElem?_eq_getElem hi⟩
      have hOK := h8 a (List.mem_of_getElem? ha)
      obtain ⟨q1, q2, q3, q4⟩ := waitOK_b hOK
      have g4 : (a.cases.map tCs).length = a.cases.length := List.length_map _
      have hbt := bitI_b a.on
      have cFl := bit_c a.on
      have hw : headW a = bitI a.on + 2 * ((a.cases.map tCs).length : Int) + 16 * a.seq + 4294967296 * a.ticket := by unfold headW; omega
      have hs := putB_next (c := c) ha
      have hz : putB1 c h i a 0 = putB c h i ++ [bitI a.on + 2 * ((a.cases.map tCs).length : Int) + 16 * a.seq + 4294967296 * a.ticket] := by unfold putB1; rw [← hw]; simp [wpad]
      repeat' (first | ((with_reducible refine kAL ?_); (first | (refine kL 815 rfl ?_; first | refine A_lit rfl rfl 25 1 _ rfl ud25 inf69 (.cons rfl .nil) (els := [[_]]) rfl (by first | exact (rfl : _ = List.map tU [_]) | exact qN) rfl (Nat.ne_of_beq_eq_false rfl) (Nat.le_of_ble_eq_true rfl) (Nat.le_of_ble_eq_true rfl) (.push qL qN) ?_) | (refine kL 12 rfl ?_; first | refine A_append_nlsub rfl rfl _ _ 25 rfl ud25 inf69 rfl rfl rfl rfl (by (try simp only [List.length_map, List.length_append, List.length_cons, List.length_nil]); omega) qB qB List.map_drop.symm (.push qL qN) ?_) | refine uA ?_)) | ((with_reducible refine kRG ?_); (first | (refine kR 3786 rfl ?_; first | (first | refine uQ (cFl) 0 ?_ | refine uQ (cFl) 1 ?_ | refine uQ (cFl) 2 ?_ | refine uQ (cFl) 3 ?_ | refine uQ (cFl) 4 ?_ | refine uQ (cFl) 5 ?_ | refine uQ (cFl) 6 ?_ | refine uQ (cFl) 7 ?_ | refine uQ (cFl) 8 ?_ | refine uQ (cFl) 9 ?_ | refine uQ (cFl) 10 ?_ | refine uQ (cFl) 11 ?_ | refine uQ (cFl) 12 ?_ | refine uQ (cFl) 13 ?_)) | (refine kR 815 rfl ?_; first | refine R_lit rfl rfl 25 1 _ rfl ud25 inf69 (.cons rfl .nil) (els := [[_]]) rfl (by first | exact (rfl : _ = List.map tU [_]) | exact qN) rfl (Nat.ne_of_beq_eq_false rfl) (Nat.le_of_ble_eq_true rfl) (Nat.le_of_ble_eq_true rfl) qh qN ?_) | refine uR ?_)) | refine uC ?_ | refine kcp rfl (fun hc => ?_) (fun hc => ?_) | refine kcn rfl (fun hc => ?_) (fun hc => ?_) | refine kcb rfl (fun hc => ?_) (fun hc => ?_) | refine kcc rfl (fun hc => ?_) (fun hc => ?_) | refine AW.drawU (id := 7) mixed 2 qR ?_ | refine AW.drawU (id := 18) mixed 2 qR ?_ | fail)
      all_goals first | (exfalso; omega) | skip
      refine AW.loopP (fun (j : Nat) => j ≤ 3) (fun (j : Nat) => (pu (pu (pu (pu (pu (pu (pu (pu (fun _ => .any) 2 (.ptr 0 0)) 3 (.ptr 1 0)) 5 (.sl 2 (k + 1 + j) (m + 1 + j))) 10 (.ptr 3 0)) 11 (i64 j)) 82 (.ln (h.waits.map tWt))) 83 (i64 (h.waits.map tWt).length)) 84 (i64 i))) (fun (j : Nat) => [cfB c, hlB h, .row (k + 1 + j) 69 1 ((putB1 c h i a j).map tU), .box 129 [bo a.on, i64 a.ticket, i64 a.seq, .t (.lst (a.cases.map tCs))]]) (fun (j : Nat) => 3 - j) (0) ?_ ?_ ?_
      ·exact Nat.zero_le _
      ·rw [hz]
       exact Wk.cq 4
      ·intro j l4
       have hL2 : (putB1 c h i a j).length = m + 1 + j := by unfold putB1; simp [wpad_len]; omega
       by_cases hj : j < 3
       ·by_cases hjb : j < a.cases.length
        ·obtain ⟨y, hy⟩ : ∃ y, a.cases[j]? = some y := ⟨_, List.getElem?_eq_getElem hjb⟩
         have hyb := caseOK_iff.1 (q4 y (List.mem_of_getElem? hy))
         have hs := putB1_next (c := c) (h := h) (i := i) (a := a) (j := j) (x := y.dir + 256 * y.handle + 4294967296 * y.value) (by rw [List.getD_eq_getElem?_getD, List.getElem?_map, hy]; rfl)
         repeat' (first | ((with_reducible refine kAL ?_); (first | (refine kL 815 rfl ?_; first | refine A_lit rfl rfl 25 1 _ rfl ud25 inf69 (.cons rfl .nil) (els := [[_]]) rfl (by first | exact (rfl : _ = List.map tU [_]) | exact qN) rfl (Nat.ne_of_beq_eq_false rfl) (Nat.le_of_ble_eq_true rfl) (Nat.le_of_ble_eq_true rfl) (.push qL qN) ?_) | (refine kL 12 rfl ?_; first | refine A_append_nlsub rfl rfl _ _ 25 rfl ud25 inf69 rfl rfl rfl rfl (by (try simp only [List.length_map, List.length_append, List.length_cons, List.length_nil]); omega) qB qB List.map_drop.symm (.push qL qN) ?_) | refine uA ?_)) | ((with_reducible refine kRG ?_); (first | (refine kR 815 rfl ?_; first | refine R_lit rfl rfl 25 1 _ rfl ud25 inf69 (.cons rfl .nil) (els := [[_]]) rfl (by first | exact (rfl : _ = List.map tU [_]) | exact qN) rfl (Nat.ne_of_beq_eq_false rfl) (Nat.le_of_ble_eq_true rfl) (Nat.le_of_ble_eq_true rfl) qh qN ?_) | refine uR ?_)) | refine uC ?_ | refine kcp rfl (fun hc => ?_) (fun hc => ?_) | refine kcn rfl (fun hc => ?_) (fun hc => ?_) | refine kcb rfl (fun hc => ?_) (fun hc => ?_) | refine kcc rfl (fun hc => ?_) (fun hc => ?_) | refine AW.drawU (id := 7) mixed 6 qR ?_ | refine AW.drawU (id := 18) mixed 4 qR ?_ | fail)
         all_goals first | (exfalso; omega) | skip
         refine ⟨j + 1, by omega, by omega, ?_⟩
         rw [hs]
         exact Wk.cq 4
        ·have hs := putB1_next (c := c) (h := h) (i := i) (a := a) (j := j) (x := 0) (getD_no (by simpa using hjb))
         repeat' (first | ((with_reducible refine kAL ?_); (first | (refine kL 815 rfl ?_; first | refine A_lit rfl rfl 25 1 _ rfl ud25 inf69 (.cons rfl .nil) (els := [[_]]) rfl (by first | exact (rfl : _ = List.map tU [_]) | exact qN) rfl (Nat.ne_of_beq_eq_false rfl) (Nat.le_of_ble_eq_true rfl) (Nat.le_of_ble_eq_true rfl) (.push qL qN) ?_) | (refine kL 12 rfl ?_; first | refine A_append_nlsub rfl rfl _ _ 25 rfl ud25 inf69 rfl rfl rfl rfl (by (try simp only [List.length_map, List.length_append, List.length_cons, List.length_nil]); omega) qB qB List.map_drop.symm (.push qL qN) ?_) | refine uA ?_)) | ((with_reducible refine kRG ?_); (first | (refine kR 815 rfl ?_; first | refine R_lit rfl rfl 25 1 _ rfl ud25 inf69 (.cons rfl .nil) (els := [[_]]) rfl (by first | exact (rfl : _ = List.map tU [_]) | exact qN) rfl (Nat.ne_of_beq_eq_false rfl) (Nat.le_of_ble_eq_true rfl) (Nat.le_of_ble_eq_true rfl) qh qN ?_) | refine uR ?_)) | refine uC ?_ | refine kcp rfl (fun hc => ?_) (fun hc => ?_) | refine kcn rfl (fun hc => ?_) (fun hc => ?_) | refine kcb rfl (fun hc => ?_) (fun hc => ?_) | refine kcc rfl (fun hc => ?_) (fun hc => ?_) | refine AW.drawU (id := 7) mixed 6 qR ?_ | refine AW.drawU (id := 18) mixed 4 qR ?_ | fail)
         all_goals first | (exfalso; omega) | skip
         refine ⟨j + 1, by omega, by omega, ?_⟩
         rw [hs]
         exact Wk.cq 4
       ·obtain rfl : j = 3 := by omega
        repeat' (first | ((with_reducible refine kAL ?_); (first | (refine kL 815 rfl ?_; first | refine A_lit rfl rfl 25 1 _ rfl ud25 inf69 (.cons rfl .nil) (els := [[_]]) rfl (by first | exact qN) rfl (Nat.ne_of_beq_eq_false rfl) (Nat.le_of_ble_eq_true rfl) (Nat.le_of_ble_eq_true rfl) (.push qL qN) ?_) | (refine kL 12 rfl ?_; first | refine A_append_nlsub rfl rfl _ _ 25 rfl ud25 inf69 rfl rfl rfl rfl (by (try simp only [List.length_map, List.length_append, List.length_cons, List.length_nil]); omega) qB qB List.map_drop.symm (.push qL qN) ?_) | refine uA ?_)) | ((with_reducible refine kRG ?_); (first | (refine kR 815 rfl ?_; first | refine R_lit rfl rfl 25 1 _ rfl ud25 inf69 (.cons rfl .nil) (els := [[_]]) rfl (by first | exact qN) rfl (Nat.ne_of_beq_eq_false rfl) (Nat.le_of_ble_eq_true rfl) (Nat.le_of_ble_eq_true rfl) qh qN ?_) | refine uR ?_)) | refine uC ?_ | refine kcp rfl (fun hc => ?_) (fun hc => ?_) | refine kcn rfl (fun hc => ?_) (fun hc => ?_) | refine kcb rfl (fun hc => ?_) (fun hc => ?_) | refine kcc rfl (fun hc => ?_) (fun hc => ?_) | refine AW.drawU (id := 7) mixed 6 qR ?_ | refine AW.drawU (id := 18) mixed 4 qR ?_ | fail)
        all_goals first | (exfalso; omega) | skip
        refine ⟨(i + 1, k + 1 + 3, m + 1 + 3), ⟨by dsimp only; omega, by dsimp only; rw [hs]; simp [wpad_len]; omega⟩, by dsimp only; omega, ?_⟩
        rw [show putB c h (i + 1) = putB1 c h i a 3 from hs]
        exact Wk.cq 3
     ·obtain rfl : i = h.waits.length := by omega
      repeat' (first | ((with_reducible refine kAL ?_); (first | (refine kL 815 rfl ?_; first | refine A_lit rfl rfl 25 1 _ rfl ud25 inf69 (.cons rfl .nil) (els := [[_]]) rfl (by first | exact qN) rfl (Nat.ne_of_beq_eq_false rfl) (Nat.le_of_ble_eq_true rfl) (Nat.le_of_ble_eq_true rfl) (.push qL qN) ?_) | (refine kL 12 rfl ?_; first | refine A_append_nlsub rfl rfl _ _ 25 rfl ud25 inf69 rfl rfl rfl rfl (by (try simp only [List.length_map, List.length_append, List.length_cons, List.length_nil]); omega) qB qB List.map_drop.symm (.push qL qN) ?_) | refine uA ?_)) | ((with_reducible refine kRG ?_); (first | (refine kR 815 rfl ?_; first | refine R_lit rfl rfl 25 1 _ rfl ud25 inf69 (.cons rfl .nil) (els := [[_]]) rfl (by first | exact qN) rfl (Nat.ne_of_beq_eq_false rfl) (Nat.le_of_ble_eq_true rfl) (Nat.le_of_ble_eq_true rfl) qh qN ?_) | refine uR ?_)) | refine uC ?_ | refine kcp rfl (fun hc => ?_) (fun hc => ?_) | refine kcn rfl (fun hc => ?_) (fun hc => ?_) | refine kcb rfl (fun hc => ?_) (fun hc => ?_) | refine kcc rfl (fun hc => ?_) (fun hc => ?_) | refine AW.drawU (id := 7) mixed 6 qR ?_ | refine AW.drawU (id := 18) mixed 4 qR ?_ | fail)
      all_goals first | (exfalso; omega) | skip
      refine AW.loopP (fun (j : Nat) => j ≤ h.done.length) (fun (j : Nat) => (pu (pu (pu (pu (fun _ => .any) 5 (.sl 2 (k + j) (m + j))) 145 (.ln (h.done.map tR))) 146 (i64 (h.done.map tR).length)) 147 (i64 j))) (fun (j : Nat) => [cfB c, hlB h, .row (k + j) 69 1 ((putD1 (putB c h h.waits.length) h.done j).map tU)]) (fun (j : Nat) => h.done.length - j) (0) ?_ ?_ ?_
      ·exact Nat.zero_le _
      ·rw [show putD1 (putB c h h.waits.length) h.done 0 = putB c h h.waits.length by simp [putD1]]
       exact Wk.cq 3
      ·intro j l4
       have hL2 : (putD1 (putB c h h.waits.length) h.done j).length = m + j := by unfold putD1; simp; omega
       by_cases hj : j < h.done.length
       ·obtain ⟨y, hy⟩ : ∃ y, h.done[j]? = some y := ⟨_, List.getElem?_eq_getElem hj⟩
        have hs := putD1_next (M := putB c h h.waits.length) hy
        repeat' (first | ((with_reducible refine kAL ?_); (first | (refine kL 815 rfl ?_; first | refine A_lit rfl rfl 25 1 _ rfl ud25 inf69 (.cons rfl .nil) (els := [[_]]) rfl (by first | exact (rfl : _ = List.map tU [_]) | exact qN) rfl (Nat.ne_of_beq_eq_false rfl) (Nat.le_of_ble_eq_true rfl) (Nat.le_of_ble_eq_true rfl) (.push qL qN) ?_) | (refine kL 12 rfl ?_; first | refine A_append_nlsub rfl rfl _ _ 25 rfl ud25 inf69 rfl rfl rfl rfl (by (try simp only [List.length_map, List.length_append, List.length_cons, List.length_nil]); omega) qB qB List.map_drop.symm (.push qL qN) ?_) | (refine kL 3818 rfl ?_; first | refine uK (rresult_c y) ?_) | refine uA ?_)) | ((with_reducible refine kRG ?_); (first | (refine kR 815 rfl ?_; first | refine R_lit rfl rfl 25 1 _ rfl ud25 inf69 (.cons rfl .nil) (els := [[_]]) rfl (by first | exact (rfl : _ = List.map tU [_]) | exact qN) rfl (Nat.ne_of_beq_eq_false rfl) (Nat.le_of_ble_eq_true rfl) (Nat.le_of_ble_eq_true rfl) qh qN ?_) | refine uR ?_)) | refine uC ?_ | refine kcp rfl (fun hc => ?_) (fun hc => ?_) | refine kcn rfl (fun hc => ?_) (fun hc => ?_) | refine kcb rfl (fun hc => ?_) (fun hc => ?_) | refine kcc rfl (fun hc => ?_) (fun hc => ?_) | refine AW.drawU (id := 7) mixed 6 qR ?_ | refine AW.drawU (id := 18) mixed 4 qR ?_ | fail)
        all_goals first | (exfalso; omega) | skip
        refine ⟨j + 1, by omega, by omega, ?_⟩
        rw [hs]
        exact Wk.cq 3
       ·obtain rfl : j = h.done.length := by omega
        rw [show putB c h h.waits.length ++ h.done.map wordR = putD1 (putB c h h.waits.length) h.done h.done.length by unfold putD1; rw [List.take_length]]
        repeat' (first | ((with_reducible refine kAL ?_); (first | (refine kL 1 rfl ?_; first | ((first | refine A_as (d := 4) rfl rfl rfl rfl ?_ | refine A_move (d := 4) rfl rfl _ (.inr rfl) (y := .sl _ _ _) rfl ?_ | refine A_move (d := 4) rfl rfl _ (.inr rfl) (y := .nl) rfl ?_ | refine A_move (d := 4) rfl rfl _ (.inr rfl) (y := .ptr _ _) rfl ?_ | refine A_move (d := 4) rfl rfl _ (.inr rfl) (y := .ln _) rfl ?_ | refine A_move (d := 4) rfl rfl _ (.inr rfl) (y := .lp _) rfl ?_ | refine A_move (d := 4) rfl rfl _ (.inr rfl) (y := .fn _ _ _) rfl ?_ | refine A_move (d := 4) rfl rfl _ (.inr rfl) (y := .sub _ _ _ _) rfl ?_ | refine A_move (d := 4) rfl rfl _ (.inr rfl) (y := .rp _ _ _ _) rfl ?_ | refine A_move (d := 4) rfl rfl _ (.inr rfl) (y := .agg _) rfl ?_ | refine A_move (d := 4) rfl rfl _ (.inr rfl) (y := .tup _) rfl ?_); (try refine uf 2 4 ?_))) | (refine kL 815 rfl ?_; first | refine A_lit rfl rfl 25 1 _ rfl ud25 inf69 (.cons rfl .nil) (els := [[_]]) rfl (by first | exact qN) rfl (Nat.ne_of_beq_eq_false rfl) (Nat.le_of_ble_eq_true rfl) (Nat.le_of_ble_eq_true rfl) (.push qL qN) ?_) | (refine kL 12 rfl ?_; first | refine A_append_nlsub rfl rfl _ _ 25 rfl ud25 inf69 rfl rfl rfl rfl (by (try simp only [List.length_map, List.length_append, List.length_cons, List.length_nil]); omega) qB qB List.map_drop.symm (.push qL qN) ?_) | refine uA ?_)) | ((with_reducible refine kRG ?_); (first | (refine kR 815 rfl ?_; first | refine R_lit rfl rfl 25 1 _ rfl ud25 inf69 (.cons rfl .nil) (els := [[_]]) rfl (by first | exact qN) rfl (Nat.ne_of_beq_eq_false rfl) (Nat.le_of_ble_eq_true rfl) (Nat.le_of_ble_eq_true rfl) qh qN ?_) | refine uR ?_)) | refine uC ?_ | refine kcp rfl (fun hc => ?_) (fun hc => ?_) | refine kcn rfl (fun hc => ?_) (fun hc => ?_) | refine kcb rfl (fun hc => ?_) (fun hc => ?_) | refine kcc rfl (fun hc => ?_) (fun hc => ?_) | refine AW.drawU (id := 7) mixed 6 qR ?_ | refine AW.drawU (id := 18) mixed 4 qR ?_ | fail)
        all_goals first | (exfalso; omega) | (exact Fin.q Try.results104 (.cons (.tmp rfl) .nil) [])
end
section
theorem rsF_c (c : DConf) (hs : c.start.length ≤ 1152921504606846976) : Cd Try.prog 105 [aCf c] (.agg [i64 (startH c).ticket, .t (.lst ((startH c).chans.map tCh)), .t (.lst ((startH c).waits.map tWt)), .t (.lst ((startH c).done.map tR))]) [] := by
 have h0 := rstart_c c hs
 have l := startH_ln c
 have e1 := l.c
 have e2 := l.w
 have e3 := l.d
 have hh : Cd Try.prog 105 [aCf c] (.agg [i64 (startH c).ticket, .sl 0 0 (startH c).chans.length, .sl 1 0 (startH c).waits.length, .sl 2 0 (startH c).done.length]) [.row 0 125 5 ((startH c).chans.map tCh), .row 0 129 4 ((startH c).waits.map tWt), .row 0 71 4 ((startH c).done.map tR)] := by rw [e1, e2, e3]; exact h0
 generalize startH c = g at *
 have hh' := Cd.frz1 hh 0 rfl (by repeat' (first | exact FzL.nil | apply FzL.cons | exact FzR.nlt | exact FzR.all (by first | rfl | (simp <;> fail) | (simp; omega)) | exact FzR.sl (by first | exact Nat.le_refl _ | (simp <;> fail) | (simp; omega)) | apply FzR.aggL | exact FzR.same _)) rfl; have hh'' := Cd.frz1 hh' 1 rfl (by repeat' (first | exact FzL.nil | apply FzL.cons | exact FzR.nlt | exact FzR.all (by first | rfl | (simp <;> fail) | (simp; omega)) | exact FzR.sl (by first | exact Nat.le_refl _ | (simp <;> fail) | (simp; omega)) | apply FzR.aggL | exact FzR.same _)) rfl; have hh''' := Cd.frz1 hh'' 2 rfl (by repeat' (first | exact FzL.nil | apply FzL.cons | exact FzR.nlt | exact FzR.all (by first | rfl | (simp <;> fail) | (simp; omega)) | exact FzR.sl (by first | exact Nat.le_refl _ | (simp <;> fail) | (simp; omega)) | apply FzR.aggL | exact FzR.same _)) rfl; exact Cd.drop hh''' rfl
end
section
attribute [local irreducible] AL AW RG Fin C Cd Cio thenQ blockQ retQ
set_option maxRecDepth 100000
theorem rstart_o (c : DConf) (hs : c.start.length ≤ 1152921504606846976) : Cd Try.prog 80 [fCf c] (fU (startO c)) [] := by
 have c1 := rchk_c c hs
 have c2 := rsF_c c hs
 have c3 := rputH_c c (startH c) hs (startH_ok c).toH
 have c5 := rsize_c c hs
 unfold startO
 generalize startH c = h at *
 cases k : chkC c
 ·rw [k] at c1
  rw [if_neg (by simp)] at c1 ⊢
  refine Cd.enter' Try.func80 rfl Try.ntmps80 rfl ?_
  repeat' (first | ((with_reducible refine kAL ?_); (first | (refine kL 1 rfl ?_; first | ((first | refine A_as (d := 2) rfl rfl rfl rfl ?_ | refine A_move (d := 2) rfl rfl _ (.inr rfl) (y := .sl _ _ _) rfl ?_ | refine A_move (d := 2) rfl rfl _ (.inr rfl) (y := .nl) rfl ?_ | refine A_move (d := 2) rfl rfl _ (.inr rfl) (y := .ptr _ _) rfl ?_ | refine A_move (d := 2) rfl rfl _ (.inr rfl) (y := .ln _) rfl ?_ | refine A_move (d := 2) rfl rfl _ (.inr rfl) (y := .lp _) rfl ?_ | refine A_move (d := 2) rfl rfl _ (.inr rfl) (y := .fn _ _ _) rfl ?_ | refine A_move (d := 2) rfl rfl _ (.inr rfl) (y := .sub _ _ _ _) rfl ?_ | refine A_move (d := 2) rfl rfl _ (.inr rfl) (y := .rp _ _ _ _) rfl ?_ | refine A_move (d := 2) rfl rfl _ (.inr rfl) (y := .agg _) rfl ?_ | refine A_move (d := 2) rfl rfl _ (.inr rfl) (y := .tup _) rfl ?_); (try refine uz 2 ?_))) | (refine kL 1386 rfl ?_; first | refine uK (c1) ?_) | (refine kL 816 rfl ?_; first | refine A_make rfl rfl 25 _ _ rfl ud25 inf69 rfl (zs := [(.v (.int .u64 0))]) rfl rfl rfl _ (by first | rfl | assumption | omega) (by first | rfl | assumption | omega) qB qB (by first | exact qN) (.push qL qN) ?_) | refine uA ?_)) | refine uR ?_ | refine uC ?_ | refine kcp rfl (fun hc => ?_) (fun hc => ?_) | refine kcn rfl (fun hc => ?_) (fun hc => ?_) | refine kcb rfl (fun hc => ?_) (fun hc => ?_) | refine kcc rfl (fun hc => ?_) (fun hc => ?_) | refine AW.drawU (id := 4) mixed 4 qR ?_ | fail)
  all_goals first | (exfalso; omega) | ((first | exact Fin.q Try.results80 (.cons (.tmp rfl) .nil) [] | refine Fin.q Try.results80 (.cons (.tmp rfl) .nil) [] (hr := (.t ?_)) | refine Fin.mkv (rs := _) Try.results80 (.cons (.tmp rfl) .nil) [] (by decide) rfl ?_ ?_ ?_ <;> repeat' (skip; first | exact .nil | refine .cons rfl ?_ ?_ | refine .cons ?_ ?_ | refine .row ?_ | refine .rset ?_ | refine .box ?_ | exact .gone | refine .aggL ?_ | refine .tupL ?_ | refine .old rfl ?_ | refine .new rfl rfl rfl ?_ | exact .nl | exact .optr rfl | exact .nptr rfl rfl rfl | refine .t ?_ | exact .any _ | rfl)))
 ·rw [k, if_pos rfl] at c1
  rw [if_pos rfl]
  by_cases k3 : c.kind = 3
  ·rw [if_pos k3]
   generalize putH c h = w at *
   clear c5
   obtain ⟨a0, a1, a2, a3, a4, a5, a6, a7, a8, a9, a10⟩ := c
   dsimp only [fCf, aCf] at *
   subst k3
   refine Cd.enter' Try.func80 rfl Try.ntmps80 rfl ?_
   repeat' (first | ((with_reducible refine kAL ?_); (first | (refine kL 1386 rfl ?_; first | refine uK (c1) ?_) | (refine kL 816 rfl ?_; first | refine A_make rfl rfl 25 _ _ rfl ud25 inf69 rfl (zs := [(.v (.int .u64 0))]) rfl rfl rfl _ (by first | rfl | assumption | omega) (by first | rfl | assumption | omega) qB qB (by first | exact qN) (.push qL qN) ?_) | refine uA ?_)) | ((with_reducible refine kRG ?_); (first | (refine kR 3370 rfl ?_; first | (first | refine uQ (c2) 0 ?_ | refine uQ (c2) 1 ?_ | refine uQ (c2) 2 ?_ | refine uQ (c2) 3 ?_ | refine uQ (c2) 4 ?_ | refine uQ (c2) 5 ?_ | refine uQ (c2) 6 ?_ | refine uQ (c2) 7 ?_ | refine uQ (c2) 8 ?_ | refine uQ (c2) 9 ?_ | refine uQ (c2) 10 ?_ | refine uQ (c2) 11 ?_ | refine uQ (c2) 12 ?_ | refine uQ (c2) 13 ?_)) | (refine kR 3338 rfl ?_; first | (first | refine uQ (c3) 0 ?_ | refine uQ (c3) 1 ?_ | refine uQ (c3) 2 ?_ | refine uQ (c3) 3 ?_ | refine uQ (c3) 4 ?_ | refine uQ (c3) 5 ?_ | refine uQ (c3) 6 ?_ | refine uQ (c3) 7 ?_ | refine uQ (c3) 8 ?_ | refine uQ (c3) 9 ?_ | refine uQ (c3) 10 ?_ | refine uQ (c3) 11 ?_ | refine uQ (c3) 12 ?_ | refine uQ (c3) 13 ?_)) | refine uR ?_)) | refine uC ?_ | refine kcp rfl (fun hc => ?_) (fun hc => ?_) | refine kcn rfl (fun hc => ?_) (fun hc => ?_) | refine kcb rfl (fun hc => ?_) (fun hc => ?_) | refine kcc rfl (fun hc => ?_) (fun hc => ?_) | refine AW.drawU (id := 4) mixed 4 qR ?_ | fail)
   all_goals first | (exfalso; omega) | ((first | exact Fin.q Try.results80 (.cons (.tmp rfl) .nil) [] | refine Fin.q Try.results80 (.cons (.tmp rfl) .nil) [] (hr := (.t ?_)) | refine Fin.mkv (rs := _) Try.results80 (.cons (.tmp rfl) .nil) [] (by decide) rfl ?_ ?_ ?_ <;> repeat' (skip; first | exact .nil | refine .cons rfl ?_ ?_ | refine .cons ?_ ?_ | refine .row ?_ | refine .rset ?_ | refine .box ?_ | exact .gone | refine .aggL ?_ | refine .tupL ?_ | refine .old rfl ?_ | refine .new rfl rfl rfl ?_ | exact .nl | exact .optr rfl | exact .nptr rfl rfl rfl | refine .t ?_ | exact .any _ | rfl)))
  ·rw [if_neg k3, putX_new k k3]
   have hz : 0 ≤ sizeC c ∧ sizeC c ≤ 1000 := by
    have hs := chkC_shaped k
    have hb := hs.h1 k3
    have := hs.t0
    have := hs.t1
    rw [sizeC_X k k3]; omega
   obtain ⟨n, hn⟩ : ∃ n : Nat, sizeC c = n := ⟨(sizeC c).toNat, by omega⟩
   rw [hn] at c5 hz ⊢
   rw [Int.toNat_natCast]
   have h0 : Cd Try.prog 80 [fCf c] (.sl 0 0 (List.replicate n (0 : Int)).length) [.row 0 69 1 ((List.replicate n (0 : Int)).map tU)] := by
    rw [List.length_replicate]
    clear c2 c3
    obtain ⟨a0, a1, a2, a3, a4, a5, a6, a7, a8, a9, a10⟩ := c
    dsimp only [fCf, aCf] at *
    refine Cd.enter' Try.func80 rfl Try.ntmps80 rfl ?_
    repeat' (first | ((with_reducible refine kAL ?_); (first | (refine kL 1386 rfl ?_; first | refine uK (c1) ?_) | (refine kL 2282 rfl ?_; first | refine uK (c5) ?_) | (refine kL 816 rfl ?_; first | refine A_make rfl rfl 25 _ _ rfl ud25 inf69 rfl (zs := [(.v (.int .u64 0))]) rfl rfl rfl n (by first | rfl | assumption | omega) (by first | rfl | assumption | omega) qB qB (by first | exact rep_map (f := tU) (x := _) | exact qN) (.push qL qN) ?_ | refine A_make rfl rfl 25 _ _ rfl ud25 inf69 rfl (zs := [(.v (.int .u64 0))]) rfl rfl rfl _ (by first | rfl | assumption | omega) (by first | rfl | assumption | omega) qB qB (by first | exact rep_map (f := tU) (x := _) | exact qN) (.push qL qN) ?_) | refine uA ?_)) | refine uR ?_ | refine uC ?_ | refine kcp rfl (fun hc => ?_) (fun hc => ?_) | refine kcn rfl (fun hc => ?_) (fun hc => ?_) | refine kcb rfl (fun hc => ?_) (fun hc => ?_) | refine kcc rfl (fun hc => ?_) (fun hc => ?_) | refine AW.drawU (id := 4) mixed 4 qR ?_ | fail)
    all_goals first | (exfalso; omega) | ((first | exact Fin.q Try.results80 (.cons (.tmp rfl) .nil) [1] | refine Fin.q Try.results80 (.cons (.tmp rfl) .nil) [1] (hr := (.t ?_)) | refine Fin.mkv (rs := _) Try.results80 (.cons (.tmp rfl) .nil) [1] (by decide) rfl ?_ ?_ ?_ <;> repeat' (skip; first | exact .nil | refine .cons rfl ?_ ?_ | refine .cons ?_ ?_ | refine .row ?_ | refine .rset ?_ | refine .box ?_ | exact .gone | refine .aggL ?_ | refine .tupL ?_ | refine .old rfl ?_ | refine .new rfl rfl rfl ?_ | exact .nl | exact .optr rfl | exact .nptr rfl rfl rfl | refine .t ?_ | exact .any _ | rfl)))
   generalize List.replicate n (0 : Int) = w at *
   have h0' := Cd.frz1 h0 0 rfl (by repeat' (first | exact FzL.nil | apply FzL.cons | exact FzR.nlt | exact FzR.all (by first | rfl | (simp <;> fail) | (simp; omega)) | exact FzR.sl (by first | exact Nat.le_refl _ | (simp <;> fail) | (simp; omega)) | apply FzR.aggL | exact FzR.same _)) rfl; exact Cd.drop h0' rfl
end
end Go.Proofs.Ytnfbggpkiekpdaa
