/- Joined: XTLay32, XTStatsT, XTLaw32s, XTSmall. -/
import Derived.Shelf.Sort.Plain
import Derived.Shelf.Slices.In.SortNone
import Derived.Test.YtnibnbcmnaflmaaKR32i
import Derived.Test.YtnibnbcmnaflmaaKR32h
import Derived.Test.YtnibnbcmnaflmaaKR32d
import Derived.Test.YtnibnbcmnaflmaaKR32j
import Derived.Test.YtnibnbcmnaflmaaKR32e
namespace Go.Proofs.Ytnibnbcmnaflmaa
open Go.RowKit
set_option linter.unusedVariables false
set_option linter.unusedSimpArgs false
set_option linter.unnecessarySimpa false
set_option maxRecDepth 100000
set_option maxHeartbeats 64000000
section
def lays189_ren : Go.Shelf.Ren := ⟨fun | 189 => 58 | 125 => 77 | 257 => 78 | 128 => 95 | 129 => 96 | 294 => 97 | 295 => 98 | 296 => 99 | 297 => 100 | 298 => 101 | 299 => 102 | 216 => 103 | 300 => 104 | 301 => 105 | 328 => 116 | 329 => 112 | 330 => 113 | 331 => 117 | 332 => 118 | 215 => 119 | 343 => 123 | n => n, fun | 28 => 22 | 3 => 3 | 46 => 133 | 0 => 0 | 51 => 147 | 53 => 80 | 4 => 4 | 183 => 141 | 182 => 140 | 131 => 99 | 5 => 5 | 9 => 9 | 218 => 157 | 222 => 161 | 228 => 166 | 229 => 167 | n => n, fun | n => n⟩
theorem lays189 : Go.Proofs.Lays.n189 Try.prog lays189_ren := {
 mixed := by kernel_rfl
 f125 := Try.func77.trans (congrArg some (by kernel_rfl))
 f128 := Try.func95.trans (congrArg some (by kernel_rfl))
 f129 := Try.func96.trans (congrArg some (by kernel_rfl))
 f189 := Try.func58.trans (congrArg some (by kernel_rfl))
 f215 := Try.func119.trans (congrArg some (by kernel_rfl))
 f216 := Try.func103.trans (congrArg some (by kernel_rfl))
 f257 := Try.func78.trans (congrArg some (by kernel_rfl))
 f294 := Try.func97.trans (congrArg some (by kernel_rfl))
 f295 := Try.func98.trans (congrArg some (by kernel_rfl))
 f296 := Try.func99.trans (congrArg some (by kernel_rfl))
 f297 := Try.func100.trans (congrArg some (by kernel_rfl))
 f298 := Try.func101.trans (congrArg some (by kernel_rfl))
 f299 := Try.func102.trans (congrArg some (by kernel_rfl))
 f300 := Try.func104.trans (congrArg some (by kernel_rfl))
 f301 := Try.func105.trans (congrArg some (by kernel_rfl))
 f328 := Try.func116.trans (congrArg some (by kernel_rfl))
 f329 := Try.func112.trans (congrArg some (by kernel_rfl))
 f330 := Try.func113.trans (congrArg some (by kernel_rfl))
 f331 := Try.func117.trans (congrArg some (by kernel_rfl))
 f332 := Try.func118.trans (congrArg some (by kernel_rfl))
 f343 := Try.func123.trans (congrArg some (by kernel_rfl))
 t0 := Try.underlying0
 a0 := Try.isAgg0
 z0 := Try.sizeOf0
 v0 := Try.zeroValue0
 t3 := Try.underlying3
 a3 := Try.isAgg3
 z3 := Try.sizeOf3
 v3 := Try.zeroValue3
 t4 := Try.underlying4
 a4 := Try.isAgg4
 z4 := Try.sizeOf4
 v4 := Try.zeroValue4
 t5 := Try.underlying5
 a5 := Try.isAgg5
 z5 := Try.sizeOf5
 v5 := Try.zeroValue5
 t9 := Try.underlying9
 a9 := Try.isAgg9
 z9 := Try.sizeOf9
 v9 := Try.zeroValue9
 t28 := Try.underlying22
 a28 := Try.isAgg22
 z28 := Try.sizeOf22
 v28 := Try.zeroValue22
 t46 := Try.underlying133
 a46 := Try.isAgg133
 z46 := Try.sizeOf133
 v46 := Try.zeroValue133
 t51 := Try.underlying147
 a51 := Try.isAgg147
 z51 := Try.sizeOf147
 v51 := Try.zeroValue147
 t53 := Try.underlying80
 a53 := Try.isAgg80
 z53 := Try.sizeOf80
 v53 := Try.zeroValue80
 t131 := Try.underlying99
 a131 := Try.isAgg99
 z131 := Try.sizeOf99
 v131 := Try.zeroValue99
 t182 := Try.underlying140
 a182 := Try.isAgg140
 z182 := Try.sizeOf140
 v182 := Try.zeroValue140
 t183 := Try.underlying141
 a183 := Try.isAgg141
 z183 := Try.sizeOf141
 v183 := Try.zeroValue141
 t218 := Try.underlying157
 a218 := Try.isAgg157
 z218 := Try.sizeOf157
 v218 := Try.zeroValue157
 t222 := Try.underlying161
 a222 := Try.isAgg161
 z222 := Try.sizeOf161
 v222 := Try.zeroValue161
 t228 := Try.underlying166
 a228 := Try.isAgg166
 z228 := Try.sizeOf166
 v228 := Try.zeroValue166
 t229 := Try.underlying167
 a229 := Try.isAgg167
 z229 := Try.sizeOf167
 v229 := Try.zeroValue167 }
theorem kslices_Sort_int (blk off cap : Nat) (zs : List Int) (w : World) (hH : Go.Sort.Holds (Value.int .i64) w blk off zs.toArray) (hblk : blk < w.heap.size) (hsz : zs.length < 4611686018427387904) :
  Calls Try.prog 58 #[.slice (some ⟨blk, off, none⟩) zs.length cap] w fun e w' =>
   e = .returned (.tuple #[]) ∧ ∃ n os, w' = Go.Sort.grow (Go.Sort.putRow (Value.int .i64) (Go.Sort.ahead w n) blk off (zs.mergeSort fun x y => decide (x ≤ y)).toArray) os := Any.slices_Sort_int lays189 blk off cap zs w hH hblk hsz
theorem kslices_Sort_int_none (p : Option Addr) (cap : Nat) (w : World) :
  Calls Try.prog 58 #[.slice p 0 cap] w fun e w' => e = .returned (.tuple #[]) ∧ w' = w := Any.slices_Sort_int_none lays189 p cap w
theorem sort_c {k : Nat} {E : TypeId} (l : List Int) (hl : l.length < 4611686018427387904) : Cio Try.prog 58 [.sl 0 k l.length] [.row k E 1 (l.map tI)] (.tup []) [.row k E 1 ((srtL l).map tI)] :=
 sort_io (fun blk cap zs w h1 h2 h3 => kslices_Sort_int blk 0 cap zs w h1 h2 h3) (fun p cap w => kslices_Sort_int_none p cap w) l hl
end
section
attribute [local irreducible] AL AW RG Fin C Cd Cio thenQ blockQ retQ
set_option maxRecDepth 100000
structure BS where
 q : Nat
 v : Nat
 n : Nat
 O : List Int
theorem sBusy_c (l : List DNote) (hl : l.length ≤ 4398046510976) : Cd Try.prog 30 [.ln (l.map tNt)] (.t (.lst ((busR l l.length).map tI))) [] := by
 have h1 : (l.map tNt).length = l.length := List.length_map _
 rw [← bus_eq]
 have h0 : Cd Try.prog 30 [.ln (l.map tNt)] (.sl 0 0 (srtL (busD l l.length)).length) [.row 0 3 1 ((srtL (busD l l.length)).map tI)] := by
  refine Cd.enter' Try.func30 rfl Try.ntmps30 rfl ?_
  repeat' (first | ((with_reducible refine kAL ?_); (first | (refine kL 12 rfl ?_; first | refine A_append_nlsub rfl rfl _ _ 22 rfl ud22 inf3 rfl rfl rfl rfl (by (try simp only [List.length_map, List.length_append, List.length_cons, List.length_nil]); omega) qB qB List.map_drop.symm (.push qL qN) ?_) | (refine kL 719 rfl ?_; first | refine A_lit rfl rfl 22 1 _ rfl ud22 inf3 (.cons rfl .nil) (els := [[_]]) rfl (by first | exact qN) rfl (Nat.ne_of_beq_eq_false rfl) (Nat.le_of_ble_eq_true rfl) (Nat.le_of_ble_eq_true rfl) (.push qL qN) ?_) | refine uA ?_ | refine uS 15 (fun hb => ?_) (fun hb => ?_))) | refine uC ?_ | refine kcp rfl (fun hc => ?_) (fun hc => ?_) | refine kcn rfl (fun hc => ?_) (fun hc => ?_) | refine kcb rfl (fun hc => ?_) (fun hc => ?_) | refine kcc rfl (fun hc => ?_) (fun hc => ?_) | fail)
  all_goals first | (exfalso; omega) | skip
  refine AW.wk (Wk.own 3 rfl 3 1 (.push rfl rfl)) ?_
  refine AW.loopP (fun (x : BS) => x.q ≤ l.length ∧ x.O = busD l x.q ∧ x.n = x.O.length) (fun (x : BS) => (pu (pu (pu (pu (fun _ => .any) 3 (.sl 0 x.v x.n)) 6 (.ln (l.map tNt))) 7 (i64 (l.map tNt).length)) 8 (i64 x.q))) (fun (x : BS) => [.row x.v 3 1 (x.O.map tI)]) (fun (x : BS) => l.length - x.q) (⟨0, 0, 0, []⟩) ?_ ?_ ?_
  ·exact ⟨Nat.zero_le _, rfl, rfl⟩
  ·exact Wk.cq 1
  ·rintro ⟨q, v, n, O⟩ ⟨hq, hO, hn⟩
   dsimp only at hq hO hn ⊢
   have hb := busD_len l q
   rw [← hO] at hb
   subst hn
   have hL : (O.map tI).length = O.length := List.length_map _
   by_cases hq2 : q < l.length
   ·obtain ⟨a, hx⟩ : ∃ a, l[q]? = some a := ⟨_, List.getElem?_eq_getElem hq2⟩
    have hs := busD_next hx
    rw [← hO] at hs
    unfold busS at hs
    have cC := containsI_c O a.thread (by omega)
    by_cases k1 : a.kind = 1
    ·by_cases k2 : a.thread ∈ O
     ·rw [if_neg (fun g => g.2 k2)] at hs
      rw [decide_eq_true k2] at cC
      repeat' (first | ((with_reducible refine kAL ?_); (first | (refine kL 12 rfl ?_; first | refine A_append_nlsub rfl rfl _ _ 22 rfl ud22 inf3 rfl rfl rfl rfl (by (try simp only [List.length_map, List.length_append, List.length_cons, List.length_nil]); omega) qB qB List.map_drop.symm (.push qL qN) ?_) | (refine kL 1642 rfl ?_; first | refine uK (cC) ?_) | (refine kL 719 rfl ?_; first | refine A_lit rfl rfl 22 1 _ rfl ud22 inf3 (.cons rfl .nil) (els := [[_]]) rfl (by first | exact qN) rfl (Nat.ne_of_beq_eq_false rfl) (Nat.le_of_ble_eq_true rfl) (Nat.le_of_ble_eq_true rfl) (.push qL qN) ?_) | refine uA ?_ | refine uS 15 (fun hb => ?_) (fun hb => ?_))) | refine uC ?_ | refine kcp rfl (fun hc => ?_) (fun hc => ?_) | refine kcn rfl (fun hc => ?_) (fun hc => ?_) | refine kcb rfl (fun hc => ?_) (fun hc => ?_) | refine kcc rfl (fun hc => ?_) (fun hc => ?_) | fail)
      all_goals first | (exfalso; omega) | skip
      refine ⟨⟨q + 1, v, O.length, O⟩, ⟨by dsimp only; omega, hs.symm, rfl⟩, by dsimp only; omega, ?_⟩
      exact Wk.cq 1
     ·rw [if_pos ⟨k1, k2⟩] at hs
      rw [decide_eq_false k2] at cC
      repeat' (first | ((with_reducible refine kAL ?_); (first | (refine kL 12 rfl ?_; first | refine A_append_nlsub rfl rfl _ _ 22 rfl ud22 inf3 rfl rfl rfl rfl (by (try simp only [List.length_map, List.length_append, List.length_cons, List.length_nil]); omega) qB qB List.map_drop.symm (.push qL qN) ?_) | (refine kL 1642 rfl ?_; first | refine uK (cC) ?_) | (refine kL 719 rfl ?_; first | refine A_lit rfl rfl 22 1 _ rfl ud22 inf3 (.cons rfl .nil) (els := [[_]]) rfl (by first | exact (rfl : _ = List.map tI [_]) | exact qN) rfl (Nat.ne_of_beq_eq_false rfl) (Nat.le_of_ble_eq_true rfl) (Nat.le_of_ble_eq_true rfl) (.push qL qN) ?_) | refine uA ?_ | refine uS 15 (fun hb => ?_) (fun hb => ?_))) | refine uC ?_ | refine kcp rfl (fun hc => ?_) (fun hc => ?_) | refine kcn rfl (fun hc => ?_) (fun hc => ?_) | refine kcb rfl (fun hc => ?_) (fun hc => ?_) | refine kcc rfl (fun hc => ?_) (fun hc => ?_) | fail)
      all_goals first | (exfalso; omega) | skip
      refine ⟨⟨q + 1, v + 1, O.length + 1, O ++ [a.thread]⟩, ⟨by dsimp only; omega, hs.symm, by simp⟩, by dsimp only; omega, ?_⟩
      exact Wk.cq 1
    ·rw [if_neg (fun g => k1 g.1)] at hs
     repeat' (first | ((with_reducible refine kAL ?_); (first | (refine kL 12 rfl ?_; first | refine A_append_nlsub rfl rfl _ _ 22 rfl ud22 inf3 rfl rfl rfl rfl (by (try simp only [List.length_map, List.length_append, List.length_cons, List.length_nil]); omega) qB qB List.map_drop.symm (.push qL qN) ?_) | (refine kL 719 rfl ?_; first | refine A_lit rfl rfl 22 1 _ rfl ud22 inf3 (.cons rfl .nil) (els := [[_]]) rfl (by first | exact qN) rfl (Nat.ne_of_beq_eq_false rfl) (Nat.le_of_ble_eq_true rfl) (Nat.le_of_ble_eq_true rfl) (.push qL qN) ?_) | refine uA ?_ | refine uS 15 (fun hb => ?_) (fun hb => ?_))) | refine uC ?_ | refine kcp rfl (fun hc => ?_) (fun hc => ?_) | refine kcn rfl (fun hc => ?_) (fun hc => ?_) | refine kcb rfl (fun hc => ?_) (fun hc => ?_) | refine kcc rfl (fun hc => ?_) (fun hc => ?_) | fail)
     all_goals first | (exfalso; omega) | skip
     refine ⟨⟨q + 1, v, O.length, O⟩, ⟨by dsimp only; omega, hs.symm, rfl⟩, by dsimp only; omega, ?_⟩
     exact Wk.cq 1
   ·have e : q = l.length := by omega
    subst e
    subst hO
    have cS := fun k => sort_c (k := k) (E := 3) (busD l l.length) (by omega)
    have hz : (srtL (busD l l.length)).length = (busD l l.length).length := List.length_mergeSort _
    rw [hz]
    generalize srtL (busD l l.length) = Z at *
    generalize busD l l.length = O at *
    repeat' (first | ((with_reducible refine kAL ?_); (first | (refine kL 12 rfl ?_; first | refine A_append_nlsub rfl rfl _ _ 22 rfl ud22 inf3 rfl rfl rfl rfl (by (try simp only [List.length_map, List.length_append, List.length_cons, List.length_nil]); omega) qB qB List.map_drop.symm (.push qL qN) ?_) | (refine kL 719 rfl ?_; first | refine A_lit rfl rfl 22 1 _ rfl ud22 inf3 (.cons rfl .nil) (els := [[_]]) rfl (by first | exact qN) rfl (Nat.ne_of_beq_eq_false rfl) (Nat.le_of_ble_eq_true rfl) (Nat.le_of_ble_eq_true rfl) (.push qL qN) ?_) | (refine kL 1866 rfl ?_; first | refine uI [0] (cS _) ?_) | refine uA ?_ | refine uS 15 (fun hb => ?_) (fun hb => ?_))) | refine uC ?_ | refine kcp rfl (fun hc => ?_) (fun hc => ?_) | refine kcn rfl (fun hc => ?_) (fun hc => ?_) | refine kcb rfl (fun hc => ?_) (fun hc => ?_) | refine kcc rfl (fun hc => ?_) (fun hc => ?_) | fail)
    all_goals first | (exfalso; omega) | ((first | exact Fin.q Try.results30 (.cons (.tmp rfl) .nil) [0] | refine Fin.q Try.results30 (.cons (.tmp rfl) .nil) [0] (hr := (.t ?_)) | refine Fin.mkv (rs := _) Try.results30 (.cons (.tmp rfl) .nil) [0] (by decide) rfl ?_ ?_ ?_ <;> repeat' (skip; first | exact .nil | refine .cons rfl ?_ ?_ | refine .cons ?_ ?_ | refine .row ?_ | refine .rset ?_ | refine .box ?_ | exact .gone | refine .aggL ?_ | refine .tupL ?_ | refine .old rfl ?_ | refine .new rfl rfl rfl ?_ | exact .nl | exact .optr rfl | exact .nptr rfl rfl rfl | refine .t ?_ | exact .any _ | rfl)))
 generalize srtL (busD l l.length) = Q at *
 have h0' := Cd.frz1 h0 0 rfl (by repeat' (first | exact FzL.nil | apply FzL.cons | exact FzR.nlt | exact FzR.all (by first | rfl | (simp <;> fail) | (simp; omega)) | exact FzR.sl (by first | exact Nat.le_refl _ | (simp <;> fail) | (simp; omega)) | apply FzR.aggL | exact FzR.same _)) rfl; exact Cd.drop h0' rfl
theorem plcI_at {t : Int} : ∀ {O : List Int} {j : Nat}, j < plcI O t → ∃ x, O[j]? = some x ∧ x < t
 | [], j, h => by unfold plcI at h; simp at h
 | b :: O, j, h => by
  by_cases hb : b < t
  ·have e : plcI (b :: O) t = plcI O t + 1 := by unfold plcI; rw [List.takeWhile_cons, if_pos (decide_eq_true hb)]; rfl
   rw [e] at h
   cases j with
   | zero => exact ⟨b, rfl, hb⟩
   | succ j => rw [List.getElem?_cons_succ]; exact plcI_at (by omega)
  ·have e : plcI (b :: O) t = 0 := by unfold plcI; rw [List.takeWhile_cons, if_neg (by simpa using hb)]; rfl
   rw [e] at h; omega
theorem plcI_end {O : List Int} {t : Int} {x : Int} (h : O[plcI O t]? = some x) : ¬ x < t := by
 intro hx
 unfold plcI at h
 induction O with
 | nil => simp at h
 | cons b O ih =>
  rw [List.takeWhile_cons] at h
  by_cases hb : b < t
  ·rw [if_pos (decide_eq_true hb), List.length_cons, List.getElem?_cons_succ] at h
   exact ih h
  ·rw [if_neg (by simpa using hb)] at h
   simp at h
   subst h
   exact hb hx
theorem rBusy_c (l : List DNote) (hl : l.length ≤ 4398046510976) : Cd Try.prog 31 [.ln (l.map tNt)] (.t (.lst ((busR l l.length).map tI))) [] := by
 have h1 : (l.map tNt).length = l.length := List.length_map _
 refine Cd.enter' Try.func31 rfl Try.ntmps31 rfl ?_
 repeat' (first | ((with_reducible refine kAL ?_); (first | (refine kL 1 rfl ?_; first | ((first | refine A_as (d := 3) rfl rfl rfl rfl ?_ | refine A_move (d := 3) rfl rfl _ (.inr rfl) (y := .sl _ _ _) rfl ?_ | refine A_move (d := 3) rfl rfl _ (.inr rfl) (y := .nl) rfl ?_ | refine A_move (d := 3) rfl rfl _ (.inr rfl) (y := .ptr _ _) rfl ?_ | refine A_move (d := 3) rfl rfl _ (.inr rfl) (y := .ln _) rfl ?_ | refine A_move (d := 3) rfl rfl _ (.inr rfl) (y := .lp _) rfl ?_ | refine A_move (d := 3) rfl rfl _ (.inr rfl) (y := .fn _ _ _) rfl ?_ | refine A_move (d := 3) rfl rfl _ (.inr rfl) (y := .sub _ _ _ _) rfl ?_ | refine A_move (d := 3) rfl rfl _ (.inr rfl) (y := .rp _ _ _ _) rfl ?_ | refine A_move (d := 3) rfl rfl _ (.inr rfl) (y := .agg _) rfl ?_ | refine A_move (d := 3) rfl rfl _ (.inr rfl) (y := .tup _) rfl ?_); (try refine uz 3 ?_))) | refine uA ?_)) | ((with_reducible refine kRG ?_); (first | (refine kR 719 rfl ?_; first | refine R_lit rfl rfl 22 1 _ rfl ud22 inf3 (.cons rfl .nil) (els := [[_]]) rfl (by first | exact qN) rfl (Nat.ne_of_beq_eq_false rfl) (Nat.le_of_ble_eq_true rfl) (Nat.le_of_ble_eq_true rfl) qh qN ?_) | refine uR ?_)) | refine uC ?_ | refine kcp rfl (fun hc => ?_) (fun hc => ?_) | refine kcn rfl (fun hc => ?_) (fun hc => ?_) | refine kcb rfl (fun hc => ?_) (fun hc => ?_) | refine kcc rfl (fun hc => ?_) (fun hc => ?_) | refine AW.drawU (id := 7) mixed 0 qR ?_ | refine AW.drawU (id := 9) mixed 0 qR ?_ | refine AW.drawU (id := 10) mixed 4 qR ?_ | fail)
 all_goals first | (exfalso; omega) | skip
 refine AW.loopP (fun (q : Nat) => q ≤ l.length) (fun (q : Nat) => (pu (pu (pu (pu (fun _ => .any) 3 (.t (.lst ((busR l q).map tI)))) 7 (.ln (l.map tNt))) 8 (i64 (l.map tNt).length)) 9 (i64 q))) (fun (q : Nat) => []) (fun (q : Nat) => l.length - q) (0) ?_ ?_ ?_
 ·exact Nat.zero_le _
 ·exact Wk.cq 0
 ·intro q hq
  have hb := busR_len l q
  by_cases hq2 : q < l.length
  ·obtain ⟨a, hx⟩ : ∃ a, l[q]? = some a := ⟨_, List.getElem?_eq_getElem hq2⟩
   have hs := busR_next hx
   unfold busT at hs
   generalize busR l q = O at *
   have hL : (O.map tI).length = O.length := List.length_map _
   by_cases k1 : a.kind = 1
   ·rw [if_pos k1] at hs
    have hple := plcI_le O a.thread
    have hat := fun j => plcI_at (t := a.thread) (O := O) (j := j)
    have hen := fun x => plcI_end (O := O) (t := a.thread) (x := x)
    unfold insI at hs
    generalize hk : plcI O a.thread = K at *
    obtain ⟨ak, ath, asq, atm, ar, ars⟩ := a
    dsimp only at *
    repeat' (first | refine uA ?_ | ((with_reducible refine kRG ?_); (first | (refine kR 719 rfl ?_; first | refine R_lit rfl rfl 22 1 _ rfl ud22 inf3 (.cons rfl .nil) (els := [[_]]) rfl (by first | exact qN) rfl (Nat.ne_of_beq_eq_false rfl) (Nat.le_of_ble_eq_true rfl) (Nat.le_of_ble_eq_true rfl) qh qN ?_) | refine uR ?_)) | refine uC ?_ | refine kcp rfl (fun hc => ?_) (fun hc => ?_) | refine kcn rfl (fun hc => ?_) (fun hc => ?_) | refine kcb rfl (fun hc => ?_) (fun hc => ?_) | refine kcc rfl (fun hc => ?_) (fun hc => ?_) | refine AW.drawU (id := 7) mixed 0 qR ?_ | refine AW.drawU (id := 9) mixed 0 qR ?_ | refine AW.drawU (id := 10) mixed 4 qR ?_ | fail)
    all_goals first | (exfalso; omega) | skip
    refine AW.loopP (fun (j : Nat) => j ≤ K) (fun (j : Nat) => (pu (pu (pu (pu (pu (pu (fun _ => .any) 3 (.t (.lst (O.map tI)))) 5 (.ptr 0 0)) 6 (i64 j)) 7 (.ln (l.map tNt))) 8 (i64 (l.map tNt).length)) 9 (i64 q))) (fun (j : Nat) => [.box 106 ((tNt ⟨ak, ath, asq, atm, ar, ars⟩).map .t)]) (fun (j : Nat) => K - j) (0) ?_ ?_ ?_
    ·exact Nat.zero_le _
    ·exact Wk.cq 1
    ·intro j hj
     by_cases hj2 : j < K
     ·obtain ⟨y, hy, hyt⟩ := hat j hj2
      clear hat hen hs
      repeat' (first | refine uA ?_ | ((with_reducible refine kRG ?_); (first | (refine kR 719 rfl ?_; first | refine R_lit rfl rfl 22 1 _ rfl ud22 inf3 (.cons rfl .nil) (els := [[_]]) rfl (by first | exact qN) rfl (Nat.ne_of_beq_eq_false rfl) (Nat.le_of_ble_eq_true rfl) (Nat.le_of_ble_eq_true rfl) qh qN ?_) | refine uR ?_)) | refine uC ?_ | refine kcp rfl (fun hc => ?_) (fun hc => ?_) | refine kcn rfl (fun hc => ?_) (fun hc => ?_) | refine kcb rfl (fun hc => ?_) (fun hc => ?_) | refine kcc rfl (fun hc => ?_) (fun hc => ?_) | refine AW.drawU (id := 7) mixed 0 qR ?_ | refine AW.drawU (id := 9) mixed 0 qR ?_ | refine AW.drawU (id := 10) mixed 4 qR ?_ | fail)
      all_goals first | (exfalso; omega) | skip
      refine ⟨j + 1, by omega, by omega, ?_⟩
      exact Wk.cq 1
     ·have ej : j = K := by omega
      subst ej
      clear hat hk
      have ht1 : (O.take j).length = j := by rw [List.length_take]; omega
      have ht3 : ((O.drop j).take (O.length - j)).length = O.length - j := by rw [List.length_take, List.length_drop]; omega
      have ht4 : (O.drop j).take (O.length - j) = O.drop j := List.take_of_length_le (by rw [List.length_drop]; omega)
      by_cases hj3 : j < O.length
      ·obtain ⟨y, hy⟩ : ∃ y, O[j]? = some y := ⟨_, List.getElem?_eq_getElem hj3⟩
       have hyn := hen y hy
       clear hen
       by_cases hye : y = ath
       ·rw [if_pos (by rw [hy, hye])] at hs
        repeat' (first | refine uA ?_ | ((with_reducible refine kRG ?_); (first | (refine kR 719 rfl ?_; first | refine R_lit rfl rfl 22 1 _ rfl ud22 inf3 (.cons rfl .nil) (els := [[_]]) rfl (by first | exact qN) rfl (Nat.ne_of_beq_eq_false rfl) (Nat.le_of_ble_eq_true rfl) (Nat.le_of_ble_eq_true rfl) qh qN ?_) | refine uR ?_)) | refine uC ?_ | refine kcp rfl (fun hc => ?_) (fun hc => ?_) | refine kcn rfl (fun hc => ?_) (fun hc => ?_) | refine kcb rfl (fun hc => ?_) (fun hc => ?_) | refine kcc rfl (fun hc => ?_) (fun hc => ?_) | refine AW.drawU (id := 7) mixed 0 qR ?_ | refine AW.drawU (id := 9) mixed 0 qR ?_ | refine AW.drawU (id := 10) mixed 4 qR ?_ | fail)
        all_goals first | (exfalso; omega) | skip
        refine ⟨q + 1, by omega, by omega, ?_⟩
        rw [hs]
        exact Wk.cq 0
       ·rw [if_neg (by rw [hy]; intro e; cases e; exact hye rfl)] at hs
        repeat' (first | refine uA ?_ | ((with_reducible refine kRG ?_); (first | (refine kR 719 rfl ?_; first | refine R_lit rfl rfl 22 1 _ rfl ud22 inf3 (.cons rfl .nil) (els := [[_]]) rfl (by first | exact (rfl : _ = List.map tI [_]) | exact qN) rfl (Nat.ne_of_beq_eq_false rfl) (Nat.le_of_ble_eq_true rfl) (Nat.le_of_ble_eq_true rfl) qh qN ?_) | refine uR ?_)) | refine uC ?_ | refine kcp rfl (fun hc => ?_) (fun hc => ?_) | refine kcn rfl (fun hc => ?_) (fun hc => ?_) | refine kcb rfl (fun hc => ?_) (fun hc => ?_) | refine kcc rfl (fun hc => ?_) (fun hc => ?_) | refine AW.drawU (id := 7) mixed 0 qR ?_ | refine AW.drawU (id := 9) mixed 0 qR ?_ | refine AW.drawU (id := 10) mixed 4 qR ?_ | fail)
        all_goals first | (exfalso; omega) | skip
        refine ⟨q + 1, by omega, by omega, ?_⟩
        rw [hs, ht4]
        refine Wk.trans (Wk.freeze 1 rfl 3 rfl (.all (by simp; omega)) rfl) ?_
        exact Wk.cq 0
      ·rw [if_neg (by rw [List.getElem?_eq_none (by omega)]; intro e; cases e)] at hs
       clear hen
       repeat' (first | refine uA ?_ | ((with_reducible refine kRG ?_); (first | (refine kR 719 rfl ?_; first | refine R_lit rfl rfl 22 1 _ rfl ud22 inf3 (.cons rfl .nil) (els := [[_]]) rfl (by first | exact (rfl : _ = List.map tI [_]) | exact qN) rfl (Nat.ne_of_beq_eq_false rfl) (Nat.le_of_ble_eq_true rfl) (Nat.le_of_ble_eq_true rfl) qh qN ?_) | refine uR ?_)) | refine uC ?_ | refine kcp rfl (fun hc => ?_) (fun hc => ?_) | refine kcn rfl (fun hc => ?_) (fun hc => ?_) | refine kcb rfl (fun hc => ?_) (fun hc => ?_) | refine kcc rfl (fun hc => ?_) (fun hc => ?_) | refine AW.drawU (id := 7) mixed 0 qR ?_ | refine AW.drawU (id := 9) mixed 0 qR ?_ | refine AW.drawU (id := 10) mixed 4 qR ?_ | fail)
       all_goals first | (exfalso; omega) | skip
       refine ⟨q + 1, by omega, by omega, ?_⟩
       rw [hs, ht4]
       refine Wk.trans (Wk.freeze 1 rfl 3 rfl (.all (by simp; omega)) rfl) ?_
       exact Wk.cq 0
   ·rw [if_neg k1] at hs
    repeat' (first | refine uA ?_ | ((with_reducible refine kRG ?_); (first | (refine kR 719 rfl ?_; first | refine R_lit rfl rfl 22 1 _ rfl ud22 inf3 (.cons rfl .nil) (els := [[_]]) rfl (by first | exact qN) rfl (Nat.ne_of_beq_eq_false rfl) (Nat.le_of_ble_eq_true rfl) (Nat.le_of_ble_eq_true rfl) qh qN ?_) | refine uR ?_)) | refine uC ?_ | refine kcp rfl (fun hc => ?_) (fun hc => ?_) | refine kcn rfl (fun hc => ?_) (fun hc => ?_) | refine kcb rfl (fun hc => ?_) (fun hc => ?_) | refine kcc rfl (fun hc => ?_) (fun hc => ?_) | refine AW.drawU (id := 7) mixed 0 qR ?_ | refine AW.drawU (id := 9) mixed 0 qR ?_ | refine AW.drawU (id := 10) mixed 4 qR ?_ | fail)
    all_goals first | (exfalso; omega) | skip
    refine ⟨q + 1, by omega, by omega, ?_⟩
    rw [hs]
    exact Wk.cq 0
  ·have e : q = l.length := by omega
   subst e
   repeat' (first | refine uA ?_ | ((with_reducible refine kRG ?_); (first | (refine kR 719 rfl ?_; first | refine R_lit rfl rfl 22 1 _ rfl ud22 inf3 (.cons rfl .nil) (els := [[_]]) rfl (by first | exact qN) rfl (Nat.ne_of_beq_eq_false rfl) (Nat.le_of_ble_eq_true rfl) (Nat.le_of_ble_eq_true rfl) qh qN ?_) | refine uR ?_)) | refine uC ?_ | refine kcp rfl (fun hc => ?_) (fun hc => ?_) | refine kcn rfl (fun hc => ?_) (fun hc => ?_) | refine kcb rfl (fun hc => ?_) (fun hc => ?_) | refine kcc rfl (fun hc => ?_) (fun hc => ?_) | refine AW.drawU (id := 7) mixed 0 qR ?_ | refine AW.drawU (id := 9) mixed 0 qR ?_ | refine AW.drawU (id := 10) mixed 4 qR ?_ | fail)
   all_goals first | (exfalso; omega) | ((first | exact Fin.q Try.results31 (.cons (.tmp rfl) .nil) [] | refine Fin.q Try.results31 (.cons (.tmp rfl) .nil) [] (hr := (.t ?_)) | refine Fin.mkv (rs := _) Try.results31 (.cons (.tmp rfl) .nil) [] (by decide) rfl ?_ ?_ ?_ <;> repeat' (skip; first | exact .nil | refine .cons rfl ?_ ?_ | refine .cons ?_ ?_ | refine .row ?_ | refine .rset ?_ | refine .box ?_ | exact .gone | refine .aggL ?_ | refine .tupL ?_ | refine .old rfl ?_ | refine .new rfl rfl rfl ?_ | exact .nl | exact .optr rfl | exact .nptr rfl rfl rfl | refine .t ?_ | exact .any _ | rfl)))
end
section
attribute [local irreducible] AL AW RG Fin C Cd Cio thenQ blockQ retQ
set_option maxRecDepth 100000
theorem ints32_s (l : List Int) (h : l.length ≤ 1152921504606846976) : Cd Try.prog 14 [.ln (l.map tI), .ln (l.map tI)] (bo true) [] := by
 have h0 := ints_c l l h
 rw [decide_eq_true rfl] at h0
 exact h0
theorem statsSums_c (l : List DNote) (u : List DTurn) (hl : l.length ≤ 4398046510976) (hu : u.length ≤ 1152921504606846976) (hu2 : ∀ x ∈ u, x.ops.length ≤ 1152921504606846976) : Cd Try.prog 6 [.ln (l.map tNt), .ln (u.map tTn)] (bo true) [] := by
 have c1 := sOf_c l u (by omega) hu hu2
 have c2 := rSum_c l u (by omega) hu hu2
 have c3 := sCodes_c l (by omega)
 have c4 := rCodes_c l (by omega)
 have c5 := sBusy_c l hl
 have c6 := rBusy_c l hl
 have i1 := ints32_s (codL l l.length) (by rw [codL_len]; decide)
 have i2 := ints32_s (busR l l.length) (by have := busR_len l l.length; omega)
 have cA := awake32_c
 generalize ((cntN l 1 l.length : Nat) : Int) = n1 at *
 generalize ((cntN l 2 l.length : Nat) : Int) = n2 at *
 generalize ((cntN l 3 l.length : Nat) : Int) = n3 at *
 generalize helpK u u.length = n4 at *
 generalize batK u u.length = n5 at *
 generalize codL l l.length = q1 at *
 generalize busR l l.length = q2 at *
 generalize ((u.length : Nat) : Int) = n6 at *
 refine Cd.enter' Try.func6 rfl Try.ntmps6 rfl ?_
 repeat' (first | ((with_reducible refine kAL ?_); (first | (refine kL 842 rfl ?_; first | refine uK (c2) ?_) | refine uA ?_)) | ((with_reducible refine kRG ?_); (first | (refine kR 874 rfl ?_; first | (first | refine uQ (c1) 0 ?_ | refine uQ (c1) 1 ?_ | refine uQ (c1) 2 ?_ | refine uQ (c1) 3 ?_ | refine uQ (c1) 4 ?_ | refine uQ (c1) 5 ?_ | refine uQ (c1) 6 ?_ | refine uQ (c1) 7 ?_ | refine uQ (c1) 8 ?_ | refine uQ (c1) 9 ?_ | refine uQ (c1) 10 ?_ | refine uQ (c1) 11 ?_ | refine uQ (c1) 12 ?_ | refine uQ (c1) 13 ?_)) | (refine kR 1926 rfl ?_; first | refine R_idx_arr rfl rfl 60 _ _ rfl ud60 inf3 rfl (by decide) 0 rfl (by decide) 0 rfl rfl ?_ | refine R_idx_arr rfl rfl 60 _ _ rfl ud60 inf3 rfl (by decide) 1 rfl (by decide) 1 rfl rfl ?_ | refine R_idx_arr rfl rfl 60 _ _ rfl ud60 inf3 rfl (by decide) 2 rfl (by decide) 2 rfl rfl ?_ | refine R_idx_arr rfl rfl 60 _ _ rfl ud60 inf3 rfl (by decide) 3 rfl (by decide) 3 rfl rfl ?_ | refine R_idx_arr rfl rfl 60 _ _ rfl ud60 inf3 rfl (by decide) 4 rfl (by decide) 4 rfl rfl ?_ | refine R_idx_arr rfl rfl 60 _ _ rfl ud60 inf3 rfl (by decide) 5 rfl (by decide) 5 rfl rfl ?_) | (refine kR 2025 rfl ?_; first | refine R_eqs rfl rfl 63 63 _ _ rfl rfl rfl (by kernel_rfl) (fun w => eqs63 9998 _ _ _ _ _ _ _ _ _ _ _ _ w) (by first | exact decide_eq_true (by first | (simp only [and_true]; omega) | (simp only [and_true]; done) | omega) | exact decide_eq_false (by first | (simp only [and_true]; omega) | (simp only [and_true]; done) | omega) | rfl) ?_) | (refine kR 906 rfl ?_; first | (first | refine uQ (c3) 0 ?_ | refine uQ (c3) 1 ?_ | refine uQ (c3) 2 ?_ | refine uQ (c3) 3 ?_ | refine uQ (c3) 4 ?_ | refine uQ (c3) 5 ?_ | refine uQ (c3) 6 ?_ | refine uQ (c3) 7 ?_ | refine uQ (c3) 8 ?_ | refine uQ (c3) 9 ?_ | refine uQ (c3) 10 ?_ | refine uQ (c3) 11 ?_ | refine uQ (c3) 12 ?_ | refine uQ (c3) 13 ?_)) | (refine kR 938 rfl ?_; first | (first | refine uQ (c4) 0 ?_ | refine uQ (c4) 1 ?_ | refine uQ (c4) 2 ?_ | refine uQ (c4) 3 ?_ | refine uQ (c4) 4 ?_ | refine uQ (c4) 5 ?_ | refine uQ (c4) 6 ?_ | refine uQ (c4) 7 ?_ | refine uQ (c4) 8 ?_ | refine uQ (c4) 9 ?_ | refine uQ (c4) 10 ?_ | refine uQ (c4) 11 ?_ | refine uQ (c4) 12 ?_ | refine uQ (c4) 13 ?_)) | (refine kR 458 rfl ?_; first | (first | refine uQ (i1) 0 ?_ | refine uQ (i1) 1 ?_ | refine uQ (i1) 2 ?_ | refine uQ (i1) 3 ?_ | refine uQ (i1) 4 ?_ | refine uQ (i1) 5 ?_ | refine uQ (i1) 6 ?_ | refine uQ (i1) 7 ?_ | refine uQ (i1) 8 ?_ | refine uQ (i1) 9 ?_ | refine uQ (i1) 10 ?_ | refine uQ (i1) 11 ?_ | refine uQ (i1) 12 ?_ | refine uQ (i1) 13 ?_) | (first | refine uQ (i2) 0 ?_ | refine uQ (i2) 1 ?_ | refine uQ (i2) 2 ?_ | refine uQ (i2) 3 ?_ | refine uQ (i2) 4 ?_ | refine uQ (i2) 5 ?_ | refine uQ (i2) 6 ?_ | refine uQ (i2) 7 ?_ | refine uQ (i2) 8 ?_ | refine uQ (i2) 9 ?_ | refine uQ (i2) 10 ?_ | refine uQ (i2) 11 ?_ | refine uQ (i2) 12 ?_ | refine uQ (i2) 13 ?_)) | (refine kR 970 rfl ?_; first | (first | refine uQ (c5) 0 ?_ | refine uQ (c5) 1 ?_ | refine uQ (c5) 2 ?_ | refine uQ (c5) 3 ?_ | refine uQ (c5) 4 ?_ | refine uQ (c5) 5 ?_ | refine uQ (c5) 6 ?_ | refine uQ (c5) 7 ?_ | refine uQ (c5) 8 ?_ | refine uQ (c5) 9 ?_ | refine uQ (c5) 10 ?_ | refine uQ (c5) 11 ?_ | refine uQ (c5) 12 ?_ | refine uQ (c5) 13 ?_)) | (refine kR 1002 rfl ?_; first | (first | refine uQ (c6) 0 ?_ | refine uQ (c6) 1 ?_ | refine uQ (c6) 2 ?_ | refine uQ (c6) 3 ?_ | refine uQ (c6) 4 ?_ | refine uQ (c6) 5 ?_ | refine uQ (c6) 6 ?_ | refine uQ (c6) 7 ?_ | refine uQ (c6) 8 ?_ | refine uQ (c6) 9 ?_ | refine uQ (c6) 10 ?_ | refine uQ (c6) 11 ?_ | refine uQ (c6) 12 ?_ | refine uQ (c6) 13 ?_)) | (refine kR 1034 rfl ?_; first | (first | refine uQ (cA) 0 ?_ | refine uQ (cA) 1 ?_ | refine uQ (cA) 2 ?_ | refine uQ (cA) 3 ?_ | refine uQ (cA) 4 ?_ | refine uQ (cA) 5 ?_ | refine uQ (cA) 6 ?_ | refine uQ (cA) 7 ?_ | refine uQ (cA) 8 ?_ | refine uQ (cA) 9 ?_ | refine uQ (cA) 10 ?_ | refine uQ (cA) 11 ?_ | refine uQ (cA) 12 ?_ | refine uQ (cA) 13 ?_)) | refine uR ?_)) | refine uC ?_ | refine kcp rfl (fun hc => ?_) (fun hc => ?_) | refine kcn rfl (fun hc => ?_) (fun hc => ?_) | refine kcb rfl (fun hc => ?_) (fun hc => ?_) | refine kcc rfl (fun hc => ?_) (fun hc => ?_) | refine AW.drawU (id := 2) mixed 0 qR ?_ | fail)
 all_goals first | (exfalso; omega) | ((first | exact Fin.q Try.results6 (.cons (.tmp rfl) .nil) [] | refine Fin.q Try.results6 (.cons (.tmp rfl) .nil) [] (hr := (.t ?_)) | refine Fin.mkv (rs := _) Try.results6 (.cons (.tmp rfl) .nil) [] (by decide) rfl ?_ ?_ ?_ <;> repeat' (skip; first | exact .nil | refine .cons rfl ?_ ?_ | refine .cons ?_ ?_ | refine .row ?_ | refine .rset ?_ | refine .box ?_ | exact .gone | refine .aggL ?_ | refine .tupL ?_ | refine .old rfl ?_ | refine .new rfl rfl rfl ?_ | exact .nl | exact .optr rfl | exact .nptr rfl rfl rfl | refine .t ?_ | exact .any _ | rfl)))
end
end Go.Proofs.Ytnibnbcmnaflmaa
namespace Go.Proofs.Ytnibnbcmnaflmaa
set_option linter.unusedVariables false
set_option linter.unusedSimpArgs false
set_option linter.unnecessarySimpa false
end Go.Proofs.Ytnibnbcmnaflmaa
