/- Joined: XTChansC, XTShut, XTLaw11, XTOnR, XTLaw11c, XPl. -/
import Derived.Test.YtbpgopomninedaaGreatKAg
import Derived.Test.YtbpgopomninedaaGreatKAl
import Derived.Test.YtbpgopomninedaaGreatKAc
import Derived.Test.YtbpgopomninedaaGreatKAk
import Derived.Test.YtbpgopomninedaaGreatKAa
namespace Go.Proofs.YtbpgopomninedaaGreat
open Go.RowKit
set_option linter.unusedVariables false
set_option linter.unusedSimpArgs false
set_option linter.unnecessarySimpa false
set_option maxRecDepth 100000
set_option maxHeartbeats 64000000
section
attribute [local irreducible] AL AW RG Fin C Cd Cio thenQ blockQ retQ
set_option maxRecDepth 100000
attribute [local simp] putW_len cutW_len
theorem doR_c (c : DChan) (h : Int) (l : List DWait) (d v : Int) (hl : okW l) (hb : c.buf.length ≤ 17592186043904) : Cd Tryz.prog 118 [aC c, i64 h, .ln (l.map tWt), i64 d, i64 v] (gR (doG c h l d v)) [] := by
 have h1 : (c.buf.map tI).length = c.buf.length := List.length_map _
 have h2 : (l.map tWt).length = l.length := List.length_map _
 have hcc := ccopyR_c c (by omega)
 have cF1 := firstR_c l 1 h hl
 have cF2 := firstR_c l 2 h hl
 have cR := readyR_c c h l d hl
 have cW := wcopyR_c l hl
 unfold doG
 cases hr : rdyC c h l d
 ·rw [hr] at cR
  rw [if_neg (by simp)]
  have h0 : Cd Tryz.prog 118 [aC c, i64 h, .ln (l.map tWt), i64 d, i64 v] (.agg [i64 c.gen, i64 c.cap, bo c.used, bo c.closed, .sl 0 0 c.buf.length, .sl 1 0 l.length, i64 0, i64 0, i64 10, i64 0, .nl]) [.row 0 3 1 (c.buf.map tI), .row 0 90 4 (l.map tWt)] := by
   refine Cd.enter' Tryz.func118 rfl Tryz.ntmps118 rfl ?_
   repeat' (first | ((with_reducible refine kAL ?_); (first | refine uK (hcc) ?_ | refine uK (cW) ?_ | refine uK (cR) ?_ | refine uA ?_)) | refine uC ?_ | fail)
   all_goals first | (exfalso; omega) | (exact Fin.q Tryz.results118 (.cons (.agg rfl rfl ud143 rfl inf143 (us := [_, _, _, _, _, _, _, _, _, _, _]) rfl rfl) .nil) [2, 3])
  unfold gR
  have h0' := Cd.frz1 h0 0 rfl (by repeat' (first | exact FzL.nil | apply FzL.cons | exact FzR.nlt | exact FzR.all (by first | rfl | (simp <;> fail) | (simp; omega)) | exact FzR.sl (by first | exact Nat.le_refl _ | (simp <;> fail) | (simp; omega)) | apply FzR.aggL | exact FzR.same _)) rfl; have h0'' := Cd.frz1 h0' 1 rfl (by repeat' (first | exact FzL.nil | apply FzL.cons | exact FzR.nlt | exact FzR.all (by first | rfl | (simp <;> fail) | (simp; omega)) | exact FzR.sl (by first | exact Nat.le_refl _ | (simp <;> fail) | (simp; omega)) | apply FzR.aggL | exact FzR.same _)) rfl; exact Cd.drop h0'' rfl
 ·rw [hr] at cR
  rw [if_pos rfl]
  obtain ⟨g, cap, used, closed, buf⟩ := c
  dsimp only at hb h1
  dsimp only [aC] at cR hcc
  rcases rdy_d hr with rfl | rfl
  ·rw [if_pos rfl]
   cases closed
   ·rw [if_neg (by simp)]
    unfold sendG
    cases hok : (fir l 2 h).ok
    ·rw [hok] at cF2
     have h0 : Cd Tryz.prog 118 [.agg [i64 g, i64 cap, bo used, bo false, .ln (buf.map tI)], i64 h, .ln (l.map tWt), i64 1, i64 v] (.agg [i64 g, i64 cap, bo used, bo false, .sl 0 0 (buf.length + 1), .sl 1 0 l.length, i64 0, i64 0, i64 0, i64 0, .nl]) [.row 0 3 1 ((buf ++ [v]).map tI), .row 0 90 4 (l.map tWt)] := by
      refine Cd.enter' Tryz.func118 rfl Tryz.ntmps118 rfl ?_
      repeat' (first | ((with_reducible refine kAL ?_); (first | refine uK (hcc) ?_ | refine uK (cW) ?_ | refine uK (cR) ?_ | refine uK (cF2) ?_ | refine A_lit rfl rfl 22 1 _ rfl ud22 inf3 (.cons rfl .nil) (els := [[_]]) rfl (by exact (rfl : _ = List.map tI [_])) rfl (Nat.ne_of_beq_eq_false rfl) (Nat.le_of_ble_eq_true rfl) (Nat.le_of_ble_eq_true rfl) (.push qL qN) ?_ | refine uA ?_)) | refine uC ?_ | fail)
      all_goals first | (exfalso; omega) | (exact Fin.q Tryz.results118 (.cons (.agg rfl rfl ud143 rfl inf143 (us := [_, _, _, _, _, _, _, _, _, _, _]) rfl rfl) .nil) [2, 3])
     simp only [Bool.false_eq_true, if_false, gR, chB]
     have h0' := Cd.frz1 h0 0 rfl (by repeat' (first | exact FzL.nil | apply FzL.cons | exact FzR.nlt | exact FzR.all (by first | rfl | (simp <;> fail) | (simp; omega)) | exact FzR.sl (by first | exact Nat.le_refl _ | (simp <;> fail) | (simp; omega)) | apply FzR.aggL | exact FzR.same _)) rfl; have h0'' := Cd.frz1 h0' 1 rfl (by repeat' (first | exact FzL.nil | apply FzL.cons | exact FzR.nlt | exact FzR.all (by first | rfl | (simp <;> fail) | (simp; omega)) | exact FzR.sl (by first | exact Nat.le_refl _ | (simp <;> fail) | (simp; omega)) | apply FzR.aggL | exact FzR.same _)) rfl; exact Cd.drop h0'' rfl
    ·obtain ⟨t, m, w, k, e1, e2, hw, hon, hc, e3, e4⟩ := fir_ok hok
     have hT : thW l (fir l 2 h) = w := by unfold thW; rw [e1, Int.toNat_natCast, getD_of hw]
     have cE := told_c l t m 0 v w hw
     have ht := get_lt hw
     rw [hok, e1, e2] at cF2
     rw [if_pos rfl, hT, e1, e2, cutW_yes (cutOk_yes hw hon)]
     have h0 : Cd Tryz.prog 118 [.agg [i64 g, i64 cap, bo used, bo false, .ln (buf.map tI)], i64 h, .ln (l.map tWt), i64 1, i64 v] (.agg [i64 g, i64 cap, bo used, bo false, .sl 0 0 buf.length, .sl 1 0 l.length, i64 0, i64 0, i64 0, i64 0, .sl 2 0 1]) [.row 0 3 1 (buf.map tI), .row 0 90 4 ((l.set t w0).map tWt), .row 0 165 5 [tTd ⟨t, ⟨w.seq, m, 0, v⟩⟩]] := by
      refine Cd.enter' Tryz.func118 rfl Tryz.ntmps118 rfl ?_
      repeat' (first | ((with_reducible refine kAL ?_); (first | (refine zkD 68 rfl ?_; refine uA ?_; (try refine AL.wk (Wk.nz 68 rfl (by exact .aggL (.cons (by exact .same _) (.cons (by exact .same _) (.cons (by exact .same _) (.cons (by exact .nlt) .nil)))))) ?_)) | refine uK (hcc) ?_ | refine uK (cW) ?_ | refine uK (cR) ?_ | refine uK (cF2) ?_ | refine A_store_rp rfl rfl 90 _ _ rfl inf90 (by decide) rfl rfl (by exact map_get (by assumption)) rfl rfl rfl (Nat.le_of_ble_eq_true rfl) (by exact map_set (f := tWt) (x := w0)) qN ?_ | refine uA ?_)) | ((with_reducible refine kRG ?_); (first | refine uQ (cE) 0 ?_ | refine R_lit (N := 5) rfl rfl 141 1 _ rfl ud141 inf165 (.cons rfl .nil) (els := [[_, _, _, _, _]]) rfl (by exact (rfl : _ = List.map tTd [⟨t, ⟨w.seq, m, 0, v⟩⟩])) rfl (Nat.ne_of_beq_eq_false rfl) (Nat.le_of_ble_eq_true rfl) (Nat.le_of_ble_eq_true rfl) rfl qN ?_ | refine R_append_nl (N := 6) rfl rfl _ _ 141 rfl ud141 inf165 rfl rfl (by exact .all rfl (by rfl)) qB qB (by exact (rfl : _ = List.map tTd [⟨t, ⟨w.seq, m, 0, v⟩⟩])) rfl qN qS ?_ | refine uR ?_)) | refine uC ?_ | refine AW.drawU (id := 11) mixed 2 qR ?_ | fail)
      all_goals first | (exfalso; omega) | (exact Fin.q Tryz.results118 (.cons (.agg rfl rfl ud143 rfl inf143 (us := [_, _, _, _, _, _, _, _, _, _, _]) rfl rfl) .nil) [2, 3, 6])
     have h0' := Cd.frz1 h0 0 rfl (by repeat' (first | exact FzL.nil | apply FzL.cons | exact FzR.nlt | exact FzR.all (by first | rfl | (simp <;> fail) | (simp; omega)) | exact FzR.sl (by first | exact Nat.le_refl _ | (simp <;> fail) | (simp; omega)) | apply FzR.aggL | exact FzR.same _)) rfl; have h0'' := Cd.frz1 h0' 1 rfl (by repeat' (first | exact FzL.nil | apply FzL.cons | exact FzR.nlt | exact FzR.all (by first | rfl | (simp <;> fail) | (simp; omega)) | exact FzR.sl (by first | exact Nat.le_refl _ | (simp <;> fail) | (simp; omega)) | apply FzR.aggL | exact FzR.same _)) rfl; have h0''' := Cd.frz1 h0'' 2 rfl (by repeat' (first | exact FzL.nil | apply FzL.cons | exact FzR.nlt | exact FzR.all (by first | rfl | (simp <;> fail) | (simp; omega)) | exact FzR.sl (by first | exact Nat.le_refl _ | (simp <;> fail) | (simp; omega)) | apply FzR.aggL | exact FzR.same _)) rfl; exact Cd.drop h0''' rfl
   ·rw [if_pos rfl]
    obtain ⟨th, hth⟩ : ∃ th, (fir l 2 h).th = th := ⟨_, rfl⟩
    obtain ⟨wh, hwh⟩ : ∃ wh, (fir l 2 h).wh = wh := ⟨_, rfl⟩
    obtain ⟨ok, hok⟩ : ∃ ok, (fir l 2 h).ok = ok := ⟨_, rfl⟩
    rw [hth, hwh, hok] at cF2
    have h0 : Cd Tryz.prog 118 [.agg [i64 g, i64 cap, bo used, bo true, .ln (buf.map tI)], i64 h, .ln (l.map tWt), i64 1, i64 v] (.agg [i64 g, i64 cap, bo used, bo true, .sl 0 0 buf.length, .sl 1 0 l.length, i64 0, i64 0, i64 9, i64 0, .nl]) [.row 0 3 1 (buf.map tI), .row 0 90 4 (l.map tWt)] := by
     refine Cd.enter' Tryz.func118 rfl Tryz.ntmps118 rfl ?_
     repeat' (first | ((with_reducible refine kAL ?_); (first | refine uK (hcc) ?_ | refine uK (cW) ?_ | refine uK (cR) ?_ | refine uK (cF2) ?_ | refine uA ?_)) | refine uC ?_ | fail)
     all_goals first | (exfalso; omega) | (exact Fin.q Tryz.results118 (.cons (.agg rfl rfl ud143 rfl inf143 (us := [_, _, _, _, _, _, _, _, _, _, _]) rfl rfl) .nil) [2, 3])
    unfold gR
    have h0' := Cd.frz1 h0 0 rfl (by repeat' (first | exact FzL.nil | apply FzL.cons | exact FzR.nlt | exact FzR.all (by first | rfl | (simp <;> fail) | (simp; omega)) | exact FzR.sl (by first | exact Nat.le_refl _ | (simp <;> fail) | (simp; omega)) | apply FzR.aggL | exact FzR.same _)) rfl; have h0'' := Cd.frz1 h0' 1 rfl (by repeat' (first | exact FzL.nil | apply FzL.cons | exact FzR.nlt | exact FzR.all (by first | rfl | (simp <;> fail) | (simp; omega)) | exact FzR.sl (by first | exact Nat.le_refl _ | (simp <;> fail) | (simp; omega)) | apply FzR.aggL | exact FzR.same _)) rfl; exact Cd.drop h0'' rfl
  ·rw [if_neg (by decide)]
   dsimp only
   cases hok : (fir l 1 h).ok
   ·rw [hok] at cF1
    by_cases hp : 0 < (buf.length : Int)
    ·rw [decide_eq_true hp, Bool.true_or, if_pos rfl]
     unfold recvG
     rw [hok, if_neg (by simp)]
     obtain ⟨x0, T, hB⟩ : ∃ x0 T, buf = x0 :: T := List.exists_cons_of_length_pos (by omega)
     have hx0 : buf[0]? = some x0 := by rw [hB]; rfl
     have hd : buf.drop 1 = T := by rw [hB]; rfl
     have hTl : T.length + 1 = buf.length := by rw [hB]; rfl
     have hTt : ((buf.drop 1).map tI).length = buf.length - 1 := by simp
     have hTd : (buf.drop 1).length = buf.length - 1 := by simp
     have h0 : Cd Tryz.prog 118 [.agg [i64 g, i64 cap, bo used, bo closed, .ln (buf.map tI)], i64 h, .ln (l.map tWt), i64 2, i64 v] (.agg [i64 g, i64 cap, bo used, bo closed, .sl 0 0 (buf.length - 1), .sl 1 0 l.length, i64 0, i64 0, i64 0, i64 x0, .nl]) [.row 0 3 1 ((buf.drop 1).map tI), .row 0 90 4 (l.map tWt)] := by
      refine Cd.enter' Tryz.func118 rfl Tryz.ntmps118 rfl ?_
      repeat' (first | ((with_reducible refine kAL ?_); (first | refine uK (hcc) ?_ | refine uK (cW) ?_ | refine uK (cR) ?_ | refine uK (cF1) ?_ | refine A_append_nlsub rfl rfl _ _ 22 rfl ud22 inf3 rfl rfl rfl rfl (by (try simp only [List.length_map, List.length_append, List.length_cons, List.length_nil]); omega) qB qB List.map_drop.symm (.push qL qN) ?_ | refine uA ?_)) | refine uC ?_ | fail)
      all_goals first | (exfalso; omega) | (exact Fin.q Tryz.results118 (.cons (.agg rfl rfl ud143 rfl inf143 (us := [_, _, _, _, _, _, _, _, _, _, _]) rfl rfl) .nil) [5, 3])
     simp only [gR, chB]
     rw [show buf.headD 0 = x0 by rw [hB]; rfl]
     have h0' := Cd.frz1 h0 0 rfl (by repeat' (first | exact FzL.nil | apply FzL.cons | exact FzR.nlt | exact FzR.all (by first | rfl | (simp <;> fail) | (simp; omega)) | exact FzR.sl (by first | exact Nat.le_refl _ | (simp <;> fail) | (simp; omega)) | apply FzR.aggL | exact FzR.same _)) rfl; have h0'' := Cd.frz1 h0' 1 rfl (by repeat' (first | exact FzL.nil | apply FzL.cons | exact FzR.nlt | exact FzR.all (by first | rfl | (simp <;> fail) | (simp; omega)) | exact FzR.sl (by first | exact Nat.le_refl _ | (simp <;> fail) | (simp; omega)) | apply FzR.aggL | exact FzR.same _)) rfl; exact Cd.drop h0'' rfl
    ·rw [decide_eq_false hp, Bool.false_or, if_neg (by simp)]
     have h0 : Cd Tryz.prog 118 [.agg [i64 g, i64 cap, bo used, bo closed, .ln (buf.map tI)], i64 h, .ln (l.map tWt), i64 2, i64 v] (.agg [i64 g, i64 cap, bo used, bo closed, .sl 0 0 buf.length, .sl 1 0 l.length, i64 0, i64 0, i64 9, i64 0, .nl]) [.row 0 3 1 (buf.map tI), .row 0 90 4 (l.map tWt)] := by
      refine Cd.enter' Tryz.func118 rfl Tryz.ntmps118 rfl ?_
      repeat' (first | ((with_reducible refine kAL ?_); (first | refine uK (hcc) ?_ | refine uK (cW) ?_ | refine uK (cR) ?_ | refine uK (cF1) ?_ | refine uA ?_)) | refine uC ?_ | fail)
      all_goals first | (exfalso; omega) | (exact Fin.q Tryz.results118 (.cons (.agg rfl rfl ud143 rfl inf143 (us := [_, _, _, _, _, _, _, _, _, _, _]) rfl rfl) .nil) [2, 3])
     unfold gR
     have h0' := Cd.frz1 h0 0 rfl (by repeat' (first | exact FzL.nil | apply FzL.cons | exact FzR.nlt | exact FzR.all (by first | rfl | (simp <;> fail) | (simp; omega)) | exact FzR.sl (by first | exact Nat.le_refl _ | (simp <;> fail) | (simp; omega)) | apply FzR.aggL | exact FzR.same _)) rfl; have h0'' := Cd.frz1 h0' 1 rfl (by repeat' (first | exact FzL.nil | apply FzL.cons | exact FzR.nlt | exact FzR.all (by first | rfl | (simp <;> fail) | (simp; omega)) | exact FzR.sl (by first | exact Nat.le_refl _ | (simp <;> fail) | (simp; omega)) | apply FzR.aggL | exact FzR.same _)) rfl; exact Cd.drop h0'' rfl
   ·rw [Bool.or_true, if_pos rfl]
    unfold recvG
    obtain ⟨t, m, w, k, e1, e2, hw, hon, hc, e3, e4⟩ := fir_ok hok
    have hT : thW l (fir l 1 h) = w := by unfold thW; rw [e1, Int.toNat_natCast, getD_of hw]
    have hV : thV l (fir l 1 h) = k.value := by unfold thV; rw [hT, e2, Int.toNat_natCast, getD_of hc]
    have cE := told_c l t m 0 0 w hw
    have ht := get_lt hw
    have hm := get_lt hc
    rw [hok, e1, e2] at cF1
    rw [if_pos hok, hV, hT, e1, e2, cutW_yes (cutOk_yes hw hon)]
    have h4 : (w.cases.map tCs).length = w.cases.length := List.length_map _
    obtain ⟨x0, T, hB⟩ : ∃ x0 T, buf ++ [k.value] = x0 :: T := List.exists_cons_of_length_pos (by simp)
    have hx0 : (buf ++ [k.value])[0]? = some x0 := by rw [hB]; rfl
    have h5 : ((buf ++ [k.value]).map tI).length = buf.length + 1 := by simp
    have h6 : (buf ++ [k.value]).length = buf.length + 1 := by simp
    have h7 : (((buf ++ [k.value]).drop 1).map tI).length = buf.length := by simp
    have h8 : ((buf ++ [k.value]).drop 1).length = buf.length := by simp
    have h0 : Cd Tryz.prog 118 [.agg [i64 g, i64 cap, bo used, bo closed, .ln (buf.map tI)], i64 h, .ln (l.map tWt), i64 2, i64 v] (.agg [i64 g, i64 cap, bo used, bo closed, .sl 0 0 (buf.length + 1 - 1), .sl 1 0 l.length, i64 0, i64 0, i64 0, i64 x0, .sl 2 0 1]) [.row 0 3 1 (((buf ++ [k.value]).drop 1).map tI), .row 0 90 4 ((l.set t w0).map tWt), .row 0 165 5 [tTd ⟨t, ⟨w.seq, m, 0, 0⟩⟩]] := by
     refine Cd.enter' Tryz.func118 rfl Tryz.ntmps118 rfl ?_
     repeat' (first | ((with_reducible refine kAL ?_); (first | (refine zkD 100 rfl ?_; refine uA ?_; (try refine AL.wk (Wk.nz 100 rfl (by exact .aggL (.cons (by exact .same _) (.cons (by exact .same _) (.cons (by exact .same _) (.cons (by exact .nlt) .nil)))))) ?_)) | refine uK (hcc) ?_ | refine uK (cW) ?_ | refine uK (cR) ?_ | refine uK (cF1) ?_ | refine A_store_rp rfl rfl 90 _ _ rfl inf90 (by decide) rfl rfl (by exact map_get (by assumption)) rfl rfl rfl (Nat.le_of_ble_eq_true rfl) (by exact map_set (f := tWt) (x := w0)) qN ?_ | refine A_append_nlsub rfl rfl _ _ 22 rfl ud22 inf3 rfl rfl rfl rfl (by (try simp only [List.length_map, List.length_append, List.length_cons, List.length_nil]); omega) qB qB List.map_drop.symm (.push qL qN) ?_ | refine uA ?_)) | ((with_reducible refine kRG ?_); (first | refine uQ (cE) 0 ?_ | refine R_lit (N := 6) rfl rfl 141 1 _ rfl ud141 inf165 (.cons rfl .nil) (els := [[_, _, _, _, _]]) rfl (by exact (rfl : _ = List.map tTd [⟨t, ⟨w.seq, m, 0, 0⟩⟩])) rfl (Nat.ne_of_beq_eq_false rfl) (Nat.le_of_ble_eq_true rfl) (Nat.le_of_ble_eq_true rfl) rfl qN ?_ | refine R_append_nl (N := 7) rfl rfl _ _ 141 rfl ud141 inf165 rfl rfl (by exact .all rfl (by rfl)) qB qB (by exact (rfl : _ = List.map tTd [⟨t, ⟨w.seq, m, 0, 0⟩⟩])) rfl qN qS ?_ | refine R_lit (N := 5) rfl rfl 22 1 _ rfl ud22 inf3 (.cons rfl .nil) (els := [[_]]) rfl (by exact (rfl : _ = List.map tI [_])) rfl (Nat.ne_of_beq_eq_false rfl) (Nat.le_of_ble_eq_true rfl) (Nat.le_of_ble_eq_true rfl) rfl qN ?_ | refine uR ?_)) | refine uC ?_ | refine AW.drawU (id := 15) mixed 2 qR ?_ | refine AW.drawU (id := 16) mixed 2 qR ?_ | fail)
     all_goals first | (exfalso; omega) | (exact Fin.q Tryz.results118 (.cons (.agg rfl rfl ud143 rfl inf143 (us := [_, _, _, _, _, _, _, _, _, _, _]) rfl rfl) .nil) [9, 3, 7])
    rw [show (buf ++ [k.value]).headD 0 = x0 by rw [hB]; rfl]
    have h0' := Cd.frz1 h0 0 rfl (by repeat' (first | exact FzL.nil | apply FzL.cons | exact FzR.nlt | exact FzR.all (by first | rfl | (simp <;> fail) | (simp; omega)) | exact FzR.sl (by first | exact Nat.le_refl _ | (simp <;> fail) | (simp; omega)) | apply FzR.aggL | exact FzR.same _)) rfl; have h0'' := Cd.frz1 h0' 1 rfl (by repeat' (first | exact FzL.nil | apply FzL.cons | exact FzR.nlt | exact FzR.all (by first | rfl | (simp <;> fail) | (simp; omega)) | exact FzR.sl (by first | exact Nat.le_refl _ | (simp <;> fail) | (simp; omega)) | apply FzR.aggL | exact FzR.same _)) rfl; have h0''' := Cd.frz1 h0'' 2 rfl (by repeat' (first | exact FzL.nil | apply FzL.cons | exact FzR.nlt | exact FzR.all (by first | rfl | (simp <;> fail) | (simp; omega)) | exact FzR.sl (by first | exact Nat.le_refl _ | (simp <;> fail) | (simp; omega)) | apply FzR.aggL | exact FzR.same _)) rfl; exact Cd.drop h0''' rfl
end
section
attribute [local irreducible] AL AW RG Fin C Cd Cio thenQ blockQ retQ
set_option maxRecDepth 100000
attribute [local simp] putW_len cutW_len
def onS (l : List DWait) (h : Int) : List Int := isort (tick l) (onK l h l.length)
theorem onS_b (l : List DWait) (h : Int) : (onS l h).length = (onK l h l.length).length ∧ (onS l h).length ≤ l.length ∧ ∀ z ∈ onS l h, 0 ≤ z ∧ z < l.length := by
 have := onK_b l h l.length
 refine ⟨isort_len _, by unfold onS; rw [isort_len]; omega, fun z hz => ?_⟩
 have := this.2 z (isort_mem.1 hz); omega
def shT (l : List DWait) (h : Int) (t : Int) : DTold := ⟨t, ⟨(l.getD t.toNat default).seq, ixF (isH h) (l.getD t.toNat default).cases, 9, 0⟩⟩
structure SG where
 c : DChan
 l : List DWait
 e : Int
 told : List DTold
 deriving DecidableEq
def shutG (c : DChan) (h : Int) (l : List DWait) : SG := if c.used && !c.closed then ⟨⟨c.gen, c.cap, true, true, c.buf⟩, (onS l h).foldl cutW l, 0, (onS l h).map (shT l h)⟩ else ⟨c, l, 9, []⟩
def sA (g : SG) : AV := .tup [.agg [i64 g.c.gen, i64 g.c.cap, bo g.c.used, bo g.c.closed, .t (.lst (g.c.buf.map tI))], .t (.lst (g.l.map tWt)), i64 g.e, .t (.lst (g.told.map tTd))]
theorem shut1_c (h : Int) (c : DCase) : Cd Tryz.prog 161 [.agg ((tCs c).map .t), .lp [i64 h]] (bo (isH h c)) [] := by
 obtain ⟨a, b, v⟩ := c
 by_cases p2 : b = h
 all_goals
  refine Cd.enter' Tryz.func161 rfl Tryz.ntmps161 rfl ?_
  repeat' (first | refine uA ?_ | refine uC ?_ | fail)
  all_goals first | (exfalso; omega) | (refine Fin.q Tryz.results161 (.cons (.tmp rfl) .nil) [] (hr := (.t ?_)))
  all_goals first | (simp [isH, *]; done) | skip
structure ShS where
 q : Nat
 k : Nat
 R : List DWait
 T : List DTold
theorem shut_c (c : DChan) (h : Int) (l : List DWait) (hl : okW l) (hb : c.buf.length ≤ 17592186043904) (cO : Cd Tryz.prog 156 [.ln (l.map tWt), i64 h] (.sl 0 0 (onS l h).length) [.row 0 3 1 ((onS l h).map tI)]) :
  Cd Tryz.prog 143 [aC c, i64 h, .ln (l.map tWt)] (sA (shutG c h l)) [] := by
 have hl0 := hl.1
 have h1 : (l.map tWt).length = l.length := List.length_map _
 have hcc := ccopy_c c (by omega)
 obtain ⟨-, hSl, hSm⟩ := onS_b l h
 unfold shutG
 generalize onS l h = S at cO hSl hSm
 have h2 : (S.map tI).length = S.length := List.length_map _
 obtain ⟨g, cap, used, closed, buf⟩ := c
 dsimp only [aC] at hcc hb ⊢
 by_cases hu : used = true ∧ closed = false
 ·obtain ⟨rfl, rfl⟩ := hu
  simp only [Bool.not_false, Bool.and_self, if_true]
  have h0 : Cd Tryz.prog 143 [.agg [i64 g, i64 cap, bo true, bo false, .ln (buf.map tI)], i64 h, .ln (l.map tWt)] (.tup [.agg [i64 g, i64 cap, bo true, bo true, .sl 0 0 buf.length], .t (.lst ((S.foldl cutW l).map tWt)), i64 0, .sl 1 0 S.length]) [.row 0 3 1 (buf.map tI), .row 0 165 5 ((S.map (shT l h)).map tTd)] := by
   refine Cd.enter' Tryz.func143 rfl Tryz.ntmps143 rfl ?_
   repeat' (first | ((with_reducible refine kAL ?_); (first | refine A_cl (d := 19) rfl rfl Tryz.func102 rfl (wcopy_c l hl) ?_; (try refine AL.wk (Wk.freeze 4 rfl 19 rfl (by first | exact .all (by first | (simp <;> fail) | fail) | fail) qN) ?_) | refine uK (hcc) ?_ | refine uK (cO) ?_ | refine uA ?_)) | refine uC ?_ | fail)
   all_goals first | (exfalso; omega) | skip
   refine AW.wk (Wk.own 12 rfl 165 5 (.push rfl rfl)) ?_
   refine AW.loopP (fun (x : ShS) => x.q ≤ S.length ∧ x.R = (S.take x.q).foldl cutW l ∧ okW x.R ∧ x.R.length = l.length ∧ x.T = (S.take x.q).map (shT l h)) (fun (x : ShS) => (pu (pu (pu (pu (pu (pu (pu (pu (pu (fun _ => .any) 2 (.ln (l.map tWt))) 4 (.ptr 1 0)) 6 (.ptr 2 0)) 10 (.ptr 5 0)) 11 (.t (.lst (x.R.map tWt)))) 12 (.sl 7 x.k x.q)) 32 (.sl 6 0 S.length)) 33 (i64 S.length)) 34 (i64 x.q))) (fun (x : ShS) => [.box 87 [i64 g, i64 cap, bo true, bo false, .ln (buf.map tI)], .box 3 [i64 h], .box 87 [i64 0, i64 0, bo false, bo false, .nl], .row 0 3 1 (buf.map tI), .gone 0, .box 87 [i64 g, i64 cap, bo true, bo true, .sl 3 0 buf.length], .row 0 3 1 (S.map tI), .row x.k 165 5 (x.T.map tTd)]) (fun (x : ShS) => S.length - x.q) (⟨0, 0, l, []⟩) ?_ ?_ ?_
   ·exact ⟨Nat.zero_le _, rfl, hl, rfl, rfl⟩
   ·exact Wk.cq 8
   ·rintro ⟨q, k, R, T⟩ ⟨h3, h4, h5, h6, h7⟩
    dsimp only at h3 h4 h5 h6 h7 ⊢
    have h8 : T.length = q := by rw [h7, List.length_map, List.length_take]; omega
    have h9 : (T.map tTd).length = q := by rw [List.length_map, h8]
    by_cases hq : q < S.length
    ·obtain ⟨z, hz⟩ : ∃ z, S[q]? = some z := ⟨_, List.getElem?_eq_getElem hq⟩
     have hzm := hSm z (List.mem_of_getElem? hz)
     obtain ⟨n, rfl⟩ : ∃ n : Nat, z = n := ⟨z.toNat, by omega⟩
     obtain ⟨w, hw⟩ : ∃ w, l[n]? = some w := ⟨_, List.getElem?_eq_getElem (by omega)⟩
     have hsh : shT l h n = ⟨n, ⟨w.seq, ixF (isH h) w.cases, 9, 0⟩⟩ := by unfold shT; rw [Int.toNat_natCast, getD_of hw]
     have cX := wcut_c R n h5
     rw [h6] at cX
     have cI := idxF_c 161 [] [.lp [i64 h]] (isH h) (fun c => ⟨_, _, [], [.lp [i64 h]], rfl, Tryz.func161, by kernel_rfl, by kernel_rfl, fun _ => .nil, fun _ => .cons (.lpL (.cons (.t _) .nil)) .nil, shut1_c h c⟩) rfl w.cases (by have := hl.at hw; omega)
     have cE := ended_c l n (ixF (isH h) w.cases) 9 0 w hw
     repeat' (first | ((with_reducible refine kAL ?_); (first | (refine zkD 56 rfl ?_; refine uA ?_; (try refine AL.wk (Wk.freeze 9 rfl 56 rfl (by exact .all (by (simp; omega))) qN) ?_)) | refine A_append rfl rfl _ _ 141 rfl ud141 inf165 rfl rfl rfl (by (simp; omega)) (by exact .all rfl (by rfl)) qB qB (by exact app_one (f := tTd) (x := ⟨n, ⟨w.seq, ixF (isH h) w.cases, 9, 0⟩⟩) (by omega)) qN qS ?_ | refine uK (cI) ?_ | refine uK (cE) ?_ | refine A_lit rfl rfl 141 1 _ rfl ud141 inf165 (.cons rfl .nil) (els := [[_, _, _, _, _]]) rfl (by exact (rfl : _ = List.map tTd [⟨n, ⟨w.seq, ixF (isH h) w.cases, 9, 0⟩⟩])) rfl (Nat.ne_of_beq_eq_false rfl) (Nat.le_of_ble_eq_true rfl) (Nat.le_of_ble_eq_true rfl) (.push qL qN) ?_ | refine uK (cX) ?_ | refine uA ?_)) | refine uC ?_ | fail)
     all_goals first | (exfalso; omega) | skip
     refine ⟨⟨q + 1, k + 1, cutW R n, T ++ [⟨n, ⟨w.seq, ixF (isH h) w.cases, 9, 0⟩⟩]⟩, ⟨by dsimp only; omega, by dsimp only; rw [List.take_add_one, hz, List.foldl_append, ← h4]; rfl, okW_cut h5, by dsimp only; rw [cutW_len, h6], by dsimp only; rw [List.take_add_one, hz, List.map_append, ← h7, ← hsh]; rfl⟩, by dsimp only; omega, ?_⟩
     exact Wk.cq 8
    ·have e : q = S.length := by omega
     subst e
     rw [List.take_length] at h4 h7
     subst h4 h7
     repeat' (first | refine uA ?_ | refine uC ?_ | fail)
     all_goals first | (exfalso; omega) | (exact Fin.q Tryz.results143 (.cons (.agg rfl rfl ud87 rfl inf87 (us := [_, _, _, _, _]) rfl rfl) (.cons (.tmp rfl) (.cons (.tmp rfl) (.cons (.tmp rfl) .nil)))) [3, 7])
  unfold sA
  have h0' := Cd.frz h0 0 rfl (by repeat' (first | exact FzL.nil | apply FzL.cons | exact FzR.nlt | exact FzR.all (by first | rfl | (simp <;> fail) | (simp; omega)) | exact FzR.sl (by first | exact Nat.le_refl _ | (simp <;> fail) | (simp; omega)) | apply FzR.aggL | exact FzR.same _)) rfl; have h0'' := Cd.frz h0' 1 rfl (by repeat' (first | exact FzL.nil | apply FzL.cons | exact FzR.nlt | exact FzR.all (by first | rfl | (simp <;> fail) | (simp; omega)) | exact FzR.sl (by first | exact Nat.le_refl _ | (simp <;> fail) | (simp; omega)) | apply FzR.aggL | exact FzR.same _)) rfl; exact Cd.drop h0'' rfl
 ·have e : (used && !closed) = false := by cases used <;> cases closed <;> simp_all
  rw [e, if_neg (by simp)]
  have h0 : Cd Tryz.prog 143 [.agg [i64 g, i64 cap, bo used, bo closed, .ln (buf.map tI)], i64 h, .ln (l.map tWt)] (.tup [.agg [i64 g, i64 cap, bo used, bo closed, .sl 0 0 buf.length], .sl 1 0 l.length, i64 9, .nl]) [.row 0 3 1 (buf.map tI), .row 0 90 4 (l.map tWt)] := by
   cases used <;> cases closed
   all_goals first | (exact absurd ⟨rfl, rfl⟩ hu) | skip
   all_goals
    refine Cd.enter' Tryz.func143 rfl Tryz.ntmps143 rfl ?_
    repeat' (first | ((with_reducible refine kAL ?_); (first | refine uK (hcc) ?_ | refine uK (wcopy_c l hl) ?_ | refine uA ?_)) | refine uC ?_ | fail)
    all_goals first | (exfalso; omega) | (exact Fin.q Tryz.results143 (.cons (.agg rfl rfl ud87 rfl inf87 (us := [_, _, _, _, _]) rfl rfl) (.cons (.tmp rfl) (.cons (.tmp rfl) (.cons (.tmp rfl) .nil)))) [3, 4])
  unfold sA
  have h0' := Cd.frz h0 0 rfl (by repeat' (first | exact FzL.nil | apply FzL.cons | exact FzR.nlt | exact FzR.all (by first | rfl | (simp <;> fail) | (simp; omega)) | exact FzR.sl (by first | exact Nat.le_refl _ | (simp <;> fail) | (simp; omega)) | apply FzR.aggL | exact FzR.same _)) rfl; have h0'' := Cd.frz h0' 1 rfl (by repeat' (first | exact FzL.nil | apply FzL.cons | exact FzR.nlt | exact FzR.all (by first | rfl | (simp <;> fail) | (simp; omega)) | exact FzR.sl (by first | exact Nat.le_refl _ | (simp <;> fail) | (simp; omega)) | apply FzR.aggL | exact FzR.same _)) rfl; exact Cd.drop h0'' rfl
def x1 : List DWait := [⟨true, 0, 3, [⟨2, 8, 0⟩]⟩]
def y1 : DChan := ⟨1, 0, true, false, []⟩
end
section
attribute [local irreducible] AL AW RG Fin C Cd Cio thenQ blockQ retQ
set_option maxRecDepth 100000
attribute [local simp] putW_len cutW_len
theorem doG_all (c : DChan) (h : Int) (l : List DWait) (d v : Int) :
  ((doG c h l d v).told = [] ∧ (doG c h l d v).l = l ∧ ((doG c h l d v).r.code = 0 ∨ (doG c h l d v).c.buf.length = c.buf.length) ∧ ((doG c h l d v).c.buf.length ≤ c.buf.length + 1 ∧ c.buf.length ≤ (doG c h l d v).c.buf.length + 1)) ∨
  ∃ (t m : Nat) (w : DWait) (z : Int), (d = 1 ∨ d = 2) ∧ fir l (3 - d) h = ⟨t, m, true⟩ ∧ l[t]? = some w ∧ w.on = true ∧ (doG c h l d v).told = [⟨t, ⟨w.seq, m, 0, z⟩⟩] ∧ (doG c h l d v).l = l.set t w0 ∧ (doG c h l d v).c.buf.length = c.buf.length ∧ (doG c h l d v).r.code = 0 := by
 unfold doG
 cases hr : rdyC c h l d
 ·left; rw [if_neg (by simp)]; exact ⟨rfl, rfl, .inr rfl, by dsimp only; omega⟩
 ·rw [if_pos rfl]
  rcases rdy_d hr with rfl | rfl
  ·rw [if_pos rfl]
   cases hc : c.closed
   ·rw [if_neg (by simp)]
    unfold sendG
    cases hk : (fir l 2 h).ok
    ·left; rw [if_neg (by simp)]; exact ⟨rfl, rfl, .inl rfl, by simp only [chB, List.length_append, List.length_singleton]; omega⟩
    ·right
     obtain ⟨t, m, w, k, e1, e2, hw, hon, hcc, e3, e4⟩ := fir_ok hk
     rw [if_pos rfl]
     refine ⟨t, m, w, v, .inl rfl, ?_, hw, hon, ?_, ?_, rfl, rfl⟩
     ·show fir l 2 h = _
      generalize fir l 2 h = F at e1 e2 hk
      obtain ⟨a, b, o⟩ := F
      dsimp only at e1 e2 hk
      rw [e1, e2, hk]
     ·dsimp only; rw [e1, e2]; unfold thW; rw [e1, Int.toNat_natCast, getD_of hw]
     ·dsimp only; rw [e1]; exact cutW_yes (cutOk_yes hw hon)
   ·left; rw [if_pos rfl]; exact ⟨rfl, rfl, .inr rfl, by dsimp only; omega⟩
  ·rw [if_neg (by decide)]
   cases hp : (decide (0 < (c.buf.length : Int)) || (fir l 1 h).ok)
   ·left; rw [if_neg (by simp)]; exact ⟨rfl, rfl, .inr rfl, by dsimp only; omega⟩
   ·rw [if_pos rfl]
    unfold recvG
    cases hk : (fir l 1 h).ok
    ·left; rw [if_neg (by simp)]; exact ⟨rfl, rfl, .inl rfl, by simp only [chB, List.length_drop]; omega⟩
    ·right
     obtain ⟨t, m, w, k, e1, e2, hw, hon, hcc, e3, e4⟩ := fir_ok hk
     rw [if_pos rfl]
     refine ⟨t, m, w, 0, .inr rfl, ?_, hw, hon, ?_, ?_, by simp [chB], rfl⟩
     ·show fir l 1 h = _
      generalize fir l 1 h = F at e1 e2 hk
      obtain ⟨a, b, o⟩ := F
      dsimp only at e1 e2 hk
      rw [e1, e2, hk]
     ·dsimp only; rw [e1, e2]; unfold thW; rw [e1, Int.toNat_natCast, getD_of hw]
     ·dsimp only; rw [e1]; exact cutW_yes (cutOk_yes hw hon)
theorem doG_ok {c : DChan} {h : Int} {l : List DWait} {d v : Int} (hl : okW l) : okW (doG c h l d v).l ∧ (doG c h l d v).l.length = l.length ∧ (doG c h l d v).c.buf.length ≤ c.buf.length + 1 ∧ (doG c h l d v).told.length ≤ 1 := by
 rcases doG_all c h l d v with ⟨h1, h2, h3, h4⟩ | ⟨t, m, w, z, _, _, hw, _, h1, h2, h3, _⟩
 ·rw [h1, h2]; exact ⟨hl, rfl, h4.1, by simp⟩
 ·rw [h1, h2]; refine ⟨⟨by simp; exact hl.1, fun x hx => ?_⟩, by simp, by omega, by simp⟩
  rcases List.mem_or_eq_of_mem_set hx with hx | rfl
  ·exact hl.2 x hx
  ·exact Nat.zero_le _
end
section
attribute [local irreducible] AL AW RG Fin C Cd Cio thenQ blockQ retQ
set_option maxRecDepth 100000
theorem insS_skip {α : Type} {key : α → Int} {x : α} : ∀ {S1 S2 : List α}, (∀ y ∈ S1, ¬ key x < key y) → insS key x (S1 ++ S2) = S1 ++ insS key x S2
 | [], _, _ => rfl
 | y :: s, S2, h => by
  simp only [List.cons_append]; rw [insS, if_neg (h y (by simp)), insS_skip fun z hz => h z (by simp [hz])]
theorem plI_isH (a : DWait) (h : Int) : plI a (isP 0 h) = plI a (isH h) := by
 have : isP 0 h = isH h := by funext c; simp [isP, isH]
 rw [this]
structure OnS where
 j : Nat
 k : Nat
 n : Nat
 M : List Int
 put : Bool
theorem onR_c (l : List DWait) (h : Int) (hl : okW l) : Cd Tryz.prog 149 [.ln (l.map tWt), i64 h] (.t (.lst ((isort (tick l) (onK l h l.length)).map tI))) [] := by
 have h0 := hl.1
 have h1 : (l.map tWt).length = l.length := List.length_map _
 first | refine Cd.enter' Tryz.func149 rfl Tryz.ntmps149 rfl ?_ | refine Cio.enter' Tryz.func149 rfl Tryz.ntmps149 rfl qM ?_ | refine C.enter' Tryz.func149 rfl Tryz.ntmps149 rfl qM ?_
 repeat' (first | ((with_reducible refine kAL ?_); (first | (refine zkD 5 rfl ?_; refine uA ?_; (try refine AL.wk (Wk.nz 5 rfl (by exact .nlt)) ?_)) | refine uA ?_)) | refine uC ?_ | fail)
 refine AW.loopP (fun (x : Nat × List Int) => x.1 ≤ l.length ∧ x.2 = isort (tick l) (onK l h x.1)) (fun (x : Nat × List Int) => (pu (pu (pu (pu (pu (pu (fun _ => .any) 0 (.ln (l.map tWt))) 1 (i64 h)) 5 (.t (.lst (x.2.map tI)))) 12 (.ln (l.map tWt))) 13 (i64 (l.map tWt).length)) 14 (i64 x.1))) (fun (x : Nat × List Int) => []) (fun (x : Nat × List Int) => l.length - x.1) ((0, [])) ?_ ?_ ?_
 ·exact ⟨Nat.zero_le _, rfl⟩
 ·exact Wk.cq 0
 ·rintro ⟨q, O⟩ ⟨h2, h3⟩
  dsimp only at h2 h3 ⊢
  by_cases hq : q < l.length
  ·obtain ⟨a, ha⟩ : ∃ a, l[q]? = some a := ⟨_, List.getElem?_eq_getElem hq⟩
   have hn := onK_next (h := h) ha
   have cP := place_c a 0 h (by have := hl.at ha; omega)
   rw [plI_isH] at cP
   have hOb : ∀ z ∈ O, 0 ≤ z ∧ z < q := fun z hz => (onK_b l h q).2 z (isort_mem.1 (by rw [← h3]; exact hz))
   have hOl : O.length ≤ q := by rw [h3, isort_len]; exact (onK_b l h q).1
   have hOt : (O.map tI).length = O.length := List.length_map _
   have hix := ixF_b (isH h) a.cases
   have hca := hl.at ha
   by_cases hon : a.on = true ∧ 0 ≤ ixF (isH h) a.cases
   ·have hpl : plI a (isH h) = ixF (isH h) a.cases := by unfold plI; rw [if_pos hon.1]
    rw [hpl] at cP
    rw [show (a.on && decide (0 ≤ ixF (isH h) a.cases)) = true by rw [hon.1, decide_eq_true hon.2]; rfl, if_pos rfl] at hn
    have hres : isort (tick l) (onK l h (q + 1)) = insS (tick l) q O := by rw [hn, isort_next, ← h3]
    have htq : tick l (q : Int) = a.ticket := by unfold tick; rw [Int.toNat_natCast, getD_of ha]
    obtain ⟨aon, atk, asq, acs⟩ := a
    dsimp only at htq hon
    repeat' (first | ((with_reducible refine kAL ?_); (first | refine uK (cP) ?_ | refine uA ?_)) | refine uC ?_ | fail)
    all_goals first | (exfalso; omega) | skip
    refine AW.wk (Wk.own 8 rfl 3 1 (.push rfl rfl)) ?_
    refine AW.loopP (fun (y : OnS) => y.j ≤ O.length ∧ y.n = y.M.length ∧ y.M.length ≤ y.j + 1 ∧ (y.put = true → y.M ++ O.drop y.j = insS (tick l) q O) ∧ (y.put = false → y.M = O.take y.j ∧ ∀ z ∈ O.take y.j, ¬ tick l q < tick l z)) (fun (y : OnS) => (pu (pu (pu (pu (pu (pu (pu (pu (pu (pu (pu (pu (fun _ => .any) 0 (.ln (l.map tWt))) 1 (i64 h)) 6 (i64 q)) 7 (.ptr 0 0)) 8 (.sl 1 y.k y.n)) 9 (bo y.put)) 12 (.ln (l.map tWt))) 13 (i64 (l.map tWt).length)) 14 (i64 q)) 23 (.t (.lst (O.map tI)))) 24 (i64 (O.map tI).length)) 25 (i64 y.j))) (fun (y : OnS) => [.box 90 [bo aon, i64 atk, i64 asq, .t (.lst (acs.map tCs))], .row y.k 3 1 (y.M.map tI)]) (fun (y : OnS) => O.length - y.j) (⟨0, 0, 0, [], false⟩) ?_ ?_ ?_
    ·exact ⟨Nat.zero_le _, rfl, by decide, fun h => (by cases h), fun _ => ⟨rfl, fun z hz => by simp at hz⟩⟩
    ·exact Wk.cq 2
    ·rintro ⟨j, k, n', M, put⟩ ⟨g1, g0, g2, g3, g4⟩
     dsimp only at g1 g0 g2 g3 g4 ⊢
     subst g0
     have hMt : (M.map tI).length = M.length := List.length_map _
     by_cases hj : j < O.length
     ·obtain ⟨z, hz⟩ : ∃ z, O[j]? = some z := ⟨_, List.getElem?_eq_getElem hj⟩
      obtain ⟨z1, z2⟩ := hOb z (List.mem_of_getElem? hz)
      obtain ⟨n, rfl⟩ : ∃ n : Nat, z = n := ⟨z.toNat, by omega⟩
      obtain ⟨b, hb⟩ : ∃ b, l[n]? = some b := ⟨_, List.getElem?_eq_getElem (by omega)⟩
      have htn : tick l (n : Int) = b.ticket := by unfold tick; rw [Int.toNat_natCast, getD_of hb]
      have hdj : O.drop j = (n : Int) :: O.drop (j + 1) := drop_next hz
      have htj : O.take (j + 1) = O.take j ++ [(n : Int)] := by rw [List.take_add_one, hz]; rfl
      obtain ⟨b1, b2, b3, b4⟩ := b
      dsimp only at htn
      cases put
      ·obtain ⟨k1, k2⟩ := g4 rfl
       by_cases hk : atk < b2
       ·have hnew : (M ++ [(q : Int)] ++ [(n : Int)]) ++ O.drop (j + 1) = insS (tick l) q O := by
         conv => rhs; rw [← List.take_append_drop j O, insS_skip k2, hdj]
         rw [insS, if_pos (by rw [htq, htn]; exact hk), k1]; simp [List.append_assoc]
        repeat' (first | ((with_reducible refine kAL ?_); (first | refine A_lit rfl rfl 22 1 _ rfl ud22 inf3 (.cons rfl .nil) (els := [[_]]) rfl (by exact (rfl : _ = List.map tI [_])) rfl (Nat.ne_of_beq_eq_false rfl) (Nat.le_of_ble_eq_true rfl) (Nat.le_of_ble_eq_true rfl) (.push qL qN) ?_ | refine uA ?_)) | refine uR ?_ | refine uC ?_ | refine AW.drawU (id := 11) mixed 0 qR ?_ | fail)
        all_goals first | (exfalso; omega) | skip
        refine ⟨⟨j + 1, k + 1 + 1, M.length + 1 + 1, M ++ [(q : Int)] ++ [(n : Int)], true⟩, ⟨by dsimp only; omega, by simp, ?_, fun _ => hnew, fun h => (by cases h)⟩, by dsimp only; omega, ?_⟩
        ·dsimp only; rw [k1]; simp; omega
        ·exact Wk.cq 2
       ·repeat' (first | ((with_reducible refine kAL ?_); (first | refine A_lit rfl rfl 22 1 _ rfl ud22 inf3 (.cons rfl .nil) (els := [[_]]) rfl (by exact (rfl : _ = List.map tI [_])) rfl (Nat.ne_of_beq_eq_false rfl) (Nat.le_of_ble_eq_true rfl) (Nat.le_of_ble_eq_true rfl) (.push qL qN) ?_ | refine uA ?_)) | refine uR ?_ | refine uC ?_ | refine AW.drawU (id := 11) mixed 0 qR ?_ | fail)
        all_goals first | (exfalso; omega) | skip
        refine ⟨⟨j + 1, k + 1, M.length + 1, M ++ [(n : Int)], false⟩, ⟨by dsimp only; omega, by simp, by simp; omega, fun h => (by cases h), fun _ => ⟨by dsimp only; rw [htj, k1], fun z hz => ?_⟩⟩, by dsimp only; omega, ?_⟩
        ·dsimp only at hz; rw [htj] at hz
         rcases List.mem_append.1 hz with hz | hz
         ·exact k2 z hz
         ·simp at hz; subst hz; rw [htq, htn]; exact hk
        ·exact Wk.cq 2
      ·have k1 := g3 rfl
       repeat' (first | ((with_reducible refine kAL ?_); (first | refine A_lit rfl rfl 22 1 _ rfl ud22 inf3 (.cons rfl .nil) (els := [[_]]) rfl (by exact (rfl : _ = List.map tI [_])) rfl (Nat.ne_of_beq_eq_false rfl) (Nat.le_of_ble_eq_true rfl) (Nat.le_of_ble_eq_true rfl) (.push qL qN) ?_ | refine uA ?_)) | refine uR ?_ | refine uC ?_ | refine AW.drawU (id := 11) mixed 0 qR ?_ | fail)
       all_goals first | (exfalso; omega) | skip
       refine ⟨⟨j + 1, k + 1, M.length + 1, M ++ [(n : Int)], true⟩, ⟨by dsimp only; omega, by simp, by simp; omega, fun _ => by dsimp only; rw [← k1, hdj]; simp, fun h => (by cases h)⟩, by dsimp only; omega, ?_⟩
       exact Wk.cq 2
     ·have ej : j = O.length := by omega
      subst ej
      cases put
      ·obtain ⟨k1, k2⟩ := g4 rfl
       rw [List.take_length] at k1 k2
       have hnew : M ++ [(q : Int)] = insS (tick l) q O := by
        have := insS_skip (key := tick l) (x := (q : Int)) (S2 := []) k2
        rw [List.append_nil] at this
        rw [this, k1]; rfl
       repeat' (first | ((with_reducible refine kAL ?_); (first | (refine zkD 5 rfl ?_; refine uA ?_; (try refine AL.wk (Wk.freeze 1 rfl 5 rfl (by first | exact .all (by first | (simp <;> fail) | fail) | fail) qN) ?_)) | refine A_lit rfl rfl 22 1 _ rfl ud22 inf3 (.cons rfl .nil) (els := [[_]]) rfl (by exact (rfl : _ = List.map tI [_])) rfl (Nat.ne_of_beq_eq_false rfl) (Nat.le_of_ble_eq_true rfl) (Nat.le_of_ble_eq_true rfl) (.push qL qN) ?_ | refine uA ?_)) | refine uC ?_ | fail)
       all_goals first | (exfalso; omega) | skip
       rw [hnew, ← hres]
       refine ⟨(q + 1, isort (tick l) (onK l h (q + 1))), ⟨by dsimp only; omega, rfl⟩, by dsimp only; omega, ?_⟩
       exact Wk.cq 0
      ·have k1 := g3 rfl
       rw [List.drop_length, List.append_nil] at k1
       repeat' (first | ((with_reducible refine kAL ?_); (first | (refine zkD 5 rfl ?_; refine uA ?_; (try refine AL.wk (Wk.freeze 1 rfl 5 rfl (by first | exact .all (by first | (simp <;> fail) | fail) | fail) qN) ?_)) | refine uA ?_)) | refine uC ?_ | fail)
       all_goals first | (exfalso; omega) | skip
       rw [k1, ← hres]
       refine ⟨(q + 1, isort (tick l) (onK l h (q + 1))), ⟨by dsimp only; omega, rfl⟩, by dsimp only; omega, ?_⟩
       exact Wk.cq 0
   ·have hpl : plI a (isH h) < 0 := by
     unfold plI
     cases ha2 : a.on
     ·simp
     ·rw [if_pos rfl]
      by_cases e : 0 ≤ ixF (isH h) a.cases
      ·exact absurd ⟨ha2, e⟩ hon
      ·omega
    rw [show (a.on && decide (0 ≤ ixF (isH h) a.cases)) = false by
     cases ha2 : a.on
     ·rfl
     ·rw [decide_eq_false fun e => hon ⟨ha2, e⟩]; rfl, if_neg (by simp)] at hn
    generalize plI a (isH h) = z at cP hpl
    obtain ⟨aon, atk, asq, acs⟩ := a
    repeat' (first | ((with_reducible refine kAL ?_); (first | refine uK (cP) ?_ | refine uA ?_)) | refine uC ?_ | fail)
    all_goals first | (exfalso; omega) | skip
    refine ⟨(q + 1, O), ⟨by dsimp only; omega, by dsimp only; rw [hn]; exact h3⟩, by dsimp only; omega, ?_⟩
    exact Wk.cq 0
  ·have e : q = l.length := by omega
   subst e
   subst h3
   repeat' (first | refine uA ?_ | refine uC ?_ | fail)
   all_goals first | (exfalso; omega) | (exact Fin.q Tryz.results149 (.cons (.tmp rfl) .nil) [])
end
section
attribute [local irreducible] AL AW RG Fin C Cd Cio thenQ blockQ retQ
set_option maxRecDepth 100000
attribute [local simp] putW_len cutW_len
theorem cuts_ok (S : List Int) : ∀ (l : List DWait), okW l → okW (S.foldl cutW l) ∧ (S.foldl cutW l).length = l.length := by
 induction S with
 | nil => intro l hl; exact ⟨hl, rfl⟩
 | cons z S ih =>
  intro l hl
  have := ih (cutW l z) (okW_cut hl)
  rw [List.foldl_cons]
  exact ⟨this.1, by rw [this.2, cutW_len]⟩
theorem idle_c (c : DChan) (h : Int) (l : List DWait) (hl : okW l) : Cd Tryz.prog 138 [aC c, i64 h, .ln (l.map tWt)] (bo (c.used && c.closed && decide (c.buf = []) && decide (onS l h = []))) [] := by
 have cO := onAll_c l h hl
 rw [← isort_len (key := tick l)] at cO
 have h2 : (onS l h).length ≤ l.length := (onS_b l h).2.1
 have h3 := hl.1
 unfold onS at h2 ⊢
 generalize isort (tick l) (onK l h l.length) = S at cO h2 ⊢
 obtain ⟨g, cap, used, closed, buf⟩ := c
 have h1 : (buf.map tI).length = buf.length := List.length_map _
 dsimp only [aC]
 by_cases e1 : buf = []
 ·subst e1
  by_cases e2 : S = []
  ·subst e2
   cases used <;> cases closed
   all_goals
    refine Cd.enter' Tryz.func138 rfl Tryz.ntmps138 rfl ?_
    repeat' (first | ((with_reducible refine kAL ?_); (first | refine uK (cO) ?_ | refine uA ?_)) | refine uC ?_ | fail)
    all_goals first | (exfalso; omega) | (exact Fin.q Tryz.results138 (.cons (.tmp rfl) .nil) [])
  ·have : 0 < S.length := List.length_pos_iff.2 e2
   rw [decide_eq_false e2]
   cases used <;> cases closed
   all_goals
    refine Cd.enter' Tryz.func138 rfl Tryz.ntmps138 rfl ?_
    repeat' (first | ((with_reducible refine kAL ?_); (first | refine uK (cO) ?_ | refine uA ?_)) | refine uC ?_ | fail)
    all_goals first | (exfalso; omega) | (exact Fin.q Tryz.results138 (.cons (.tmp rfl) .nil) [])
 ·have : 0 < buf.length := List.length_pos_iff.2 e1
  rw [decide_eq_false e1]
  cases used <;> cases closed
  all_goals
   refine Cd.enter' Tryz.func138 rfl Tryz.ntmps138 rfl ?_
   repeat' (first | refine uA ?_ | refine uC ?_ | fail)
   all_goals first | (exfalso; omega) | (exact Fin.q Tryz.results138 (.cons (.tmp rfl) .nil) [])
end
end Go.Proofs.YtbpgopomninedaaGreat
namespace Go.Proofs.YtbpgopomninedaaGreat
set_option linter.unusedVariables false
set_option linter.unusedSimpArgs false
set_option linter.unnecessarySimpa false
def hdl (p g : Int) : Int := if 0 ≤ p ∧ p ≤ 7 ∧ 1 ≤ g ∧ g ≤ 4095 then g * 8 + p else 0
def plOk (h : Int) : Bool := decide (8 ≤ h ∧ h ≤ 32767)
def plP (h : Int) : Int := if plOk h then h % 8 else 0
def plG (h : Int) : Int := if plOk h then h / 8 else 0
theorem pl_yes {h : Int} (a : 8 ≤ h) (b : h ≤ 32767) : plP h = h % 8 ∧ plG h = h / 8 ∧ plOk h = true := by
 have hok : plOk h = true := decide_eq_true ⟨a, b⟩
 unfold plP plG; rw [if_pos hok, if_pos hok]; exact ⟨rfl, rfl, hok⟩
theorem pl_no {h : Int} (a : ¬ (8 ≤ h ∧ h ≤ 32767)) : plP h = 0 ∧ plG h = 0 ∧ plOk h = false := by
 have hok : plOk h = false := decide_eq_false a
 unfold plP plG; rw [hok]; exact ⟨rfl, rfl, rfl⟩
end Go.Proofs.YtbpgopomninedaaGreat
