/- Joined: XTLay32, XTLaw39s. -/
import Derived.Shelf.Sort.Plain
import Derived.Shelf.Slices.In.SortNone
import Derived.Test.YtnibnbcmnaflmaaKEk
import Derived.Test.YtnibnbcmnaflmaaKEh
import Derived.Test.YtnibnbcmnaflmaaKEm
import Derived.Test.YtnibnbcmnaflmaaKEj
namespace Go.Proofs.Ytnibnbcmnaflmaa
open Go.RowKit
set_option linter.unusedVariables false
set_option linter.unusedSimpArgs false
set_option linter.unnecessarySimpa false
set_option maxRecDepth 100000
set_option maxHeartbeats 64000000
section
def lays189_ren : Go.Shelf.Ren := ⟨fun | 189 => 58 | 125 => 77 | 257 => 78 | 128 => 95 | 129 => 96 | 294 => 97 | 295 => 98 | 296 => 99 | 297 => 100 | 298 => 101 | 299 => 102 | 216 => 103 | 300 => 104 | 301 => 105 | 328 => 116 | 329 => 112 | 330 => 113 | 331 => 117 | 332 => 118 | 215 => 119 | 343 => 123 | n => n, fun | 28 => 22 | 3 => 3 | 46 => 133 | 0 => 0 | 51 => 147 | 53 => 80 | 4 => 4 | 183 => 141 | 182 => 140 | 131 => 99 | 5 => 5 | 9 => 9 | 218 => 157 | 222 => 161 | 228 => 166 | 229 => 167 | n => n, fun | n => n⟩
theorem lays189 : Go.Proofs.Lays.n189 Try.prog lays189_ren := {
 mixed := by kernel_rfl
 f125 := Try.func77.trans (congrArg some (by kernel_rfl))
 f128 := Try.func95.trans (congrArg some (by kernel_rfl))
 f129 := Try.func96.trans (congrArg some (by kernel_rfl))
 f189 := Try.func58.trans (congrArg some (by kernel_rfl))
 f215 := Try.func119.trans (congrArg some (by kernel_rfl))
 f216 := Try.func103.trans (congrArg some (by kernel_rfl))
 f257 := Try.func78.trans (congrArg some (by kernel_rfl))
 f294 := Try.func97.trans (congrArg some (by kernel_rfl))
 f295 := Try.func98.trans (congrArg some (by kernel_rfl))
 f296 := Try.func99.trans (congrArg some (by kernel_rfl))
 f297 := Try.func100.trans (congrArg some (by kernel_rfl))
 f298 := Try.func101.trans (congrArg some (by kernel_rfl))
 f299 := Try.func102.trans (congrArg some (by kernel_rfl))
 f300 := Try.func104.trans (congrArg some (by kernel_rfl))
 f301 := Try.func105.trans (congrArg some (by kernel_rfl))
 f328 := Try.func116.trans (congrArg some (by kernel_rfl))
 f329 := Try.func112.trans (congrArg some (by kernel_rfl))
 f330 := Try.func113.trans (congrArg some (by kernel_rfl))
 f331 := Try.func117.trans (congrArg some (by kernel_rfl))
 f332 := Try.func118.trans (congrArg some (by kernel_rfl))
 f343 := Try.func123.trans (congrArg some (by kernel_rfl))
 t0 := Try.underlying0
 a0 := Try.isAgg0
 z0 := Try.sizeOf0
 v0 := Try.zeroValue0
 t3 := Try.underlying3
 a3 := Try.isAgg3
 z3 := Try.sizeOf3
 v3 := Try.zeroValue3
 t4 := Try.underlying4
 a4 := Try.isAgg4
 z4 := Try.sizeOf4
 v4 := Try.zeroValue4
 t5 := Try.underlying5
 a5 := Try.isAgg5
 z5 := Try.sizeOf5
 v5 := Try.zeroValue5
 t9 := Try.underlying9
 a9 := Try.isAgg9
 z9 := Try.sizeOf9
 v9 := Try.zeroValue9
 t28 := Try.underlying22
 a28 := Try.isAgg22
 z28 := Try.sizeOf22
 v28 := Try.zeroValue22
 t46 := Try.underlying133
 a46 := Try.isAgg133
 z46 := Try.sizeOf133
 v46 := Try.zeroValue133
 t51 := Try.underlying147
 a51 := Try.isAgg147
 z51 := Try.sizeOf147
 v51 := Try.zeroValue147
 t53 := Try.underlying80
 a53 := Try.isAgg80
 z53 := Try.sizeOf80
 v53 := Try.zeroValue80
 t131 := Try.underlying99
 a131 := Try.isAgg99
 z131 := Try.sizeOf99
 v131 := Try.zeroValue99
 t182 := Try.underlying140
 a182 := Try.isAgg140
 z182 := Try.sizeOf140
 v182 := Try.zeroValue140
 t183 := Try.underlying141
 a183 := Try.isAgg141
 z183 := Try.sizeOf141
 v183 := Try.zeroValue141
 t218 := Try.underlying157
 a218 := Try.isAgg157
 z218 := Try.sizeOf157
 v218 := Try.zeroValue157
 t222 := Try.underlying161
 a222 := Try.isAgg161
 z222 := Try.sizeOf161
 v222 := Try.zeroValue161
 t228 := Try.underlying166
 a228 := Try.isAgg166
 z228 := Try.sizeOf166
 v228 := Try.zeroValue166
 t229 := Try.underlying167
 a229 := Try.isAgg167
 z229 := Try.sizeOf167
 v229 := Try.zeroValue167 }
theorem kslices_Sort_int (blk off cap : Nat) (zs : List Int) (w : World) (hH : Go.Sort.Holds (Value.int .i64) w blk off zs.toArray) (hblk : blk < w.heap.size) (hsz : zs.length < 4611686018427387904) :
  Calls Try.prog 58 #[.slice (some ⟨blk, off, none⟩) zs.length cap] w fun e w' =>
   e = .returned (.tuple #[]) ∧ ∃ n os, w' = Go.Sort.grow (Go.Sort.putRow (Value.int .i64) (Go.Sort.ahead w n) blk off (zs.mergeSort fun x y => decide (x ≤ y)).toArray) os := Any.slices_Sort_int lays189 blk off cap zs w hH hblk hsz
theorem kslices_Sort_int_none (p : Option Addr) (cap : Nat) (w : World) :
  Calls Try.prog 58 #[.slice p 0 cap] w fun e w' => e = .returned (.tuple #[]) ∧ w' = w := Any.slices_Sort_int_none lays189 p cap w
theorem sort_c {k : Nat} {E : TypeId} (l : List Int) (hl : l.length < 4611686018427387904) : Cio Try.prog 58 [.sl 0 k l.length] [.row k E 1 (l.map tI)] (.tup []) [.row k E 1 ((srtL l).map tI)] :=
 sort_io (fun blk cap zs w h1 h2 h3 => kslices_Sort_int blk 0 cap zs w h1 h2 h3) (fun p cap w => kslices_Sort_int_none p cap w) l hl
end
section
attribute [local irreducible] AL AW RG Fin C Cd Cio thenQ blockQ retQ
set_option maxRecDepth 100000
theorem whatC_b (c : DConf) (a : Int) : 0 ≤ (whatC c a).1 ∧ (whatC c a).1 ≤ 10 := by
 unfold whatC whatL
 repeat' split
 all_goals (dsimp only; omega)
abbrev wsX (c : DConf) (xs : List DXg) : List Wh := xs.map fun x => whatC c x.addr
theorem sorts_c (c : DConf) (hs : c.start.length ≤ 1152921504606846976) (xs : List DXg) (hx : xs.length ≤ 5864062014805) (ha : ∀ x ∈ xs, sI x.addr) : Cd Try.prog 41 [aCf c, .ln (xs.map tXg)] (.t (.lst ((cnS9 (wsX c xs) xs.length).map tI))) [] := by
 have h1 : (xs.map tXg).length = xs.length := List.length_map _
 have h0 : Cd Try.prog 41 [aCf c, .ln (xs.map tXg)] (.sl 0 0 11) [.row 0 3 1 ((cnS9 (wsX c xs) xs.length).map tI)] := by
  refine Cd.enter' Try.func41 rfl Try.ntmps41 rfl ?_
  repeat' (first | ((with_reducible refine kAL ?_); (first | (refine kL 720 rfl ?_; first | refine A_make rfl rfl 22 _ _ rfl ud22 inf3 rfl (zs := [(.v (.int .i64 0))]) rfl rfl rfl 11 (by first | rfl | assumption | omega) (by first | rfl | assumption | omega) qB qB (by first | exact qN) (.push qL qN) ?_ | refine A_make rfl rfl 22 _ _ rfl ud22 inf3 rfl (zs := [(.v (.int .i64 0))]) rfl rfl rfl _ (by first | rfl | assumption | omega) (by first | rfl | assumption | omega) qB qB (by first | exact qN) (.push qL qN) ?_) | refine uA ?_)) | refine uC ?_ | refine kcp rfl (fun hc => ?_) (fun hc => ?_) | refine kcn rfl (fun hc => ?_) (fun hc => ?_) | refine kcb rfl (fun hc => ?_) (fun hc => ?_) | refine kcc rfl (fun hc => ?_) (fun hc => ?_) | fail)
  all_goals first | (exfalso; omega) | skip
  refine AW.loopP (fun (q : Nat) => q ≤ xs.length) (fun (q : Nat) => (pu (pu (pu (pu (pu (fun _ => .any) 2 (.ptr 0 0)) 5 (.sl 1 0 11)) 12 (.ln (xs.map tXg))) 13 (i64 xs.length)) 14 (i64 q))) (fun (q : Nat) => [.box 79 [i64 c.kind, i64 c.threads, i64 c.chans, i64 c.cap, i64 c.nodes, i64 c.retire, i64 c.patience, i64 c.tags, i64 c.seqs, i64 c.gens, .ln (c.start.map tI)], .row 0 3 1 ((cnS9 (wsX c xs) q).map tI)]) (fun (q : Nat) => xs.length - q) (0) ?_ ?_ ?_
  ·exact Nat.zero_le _
  ·rw [h1]
   exact Wk.cq 2
  ·intro q hq
   by_cases hq2 : q < xs.length
   ·obtain ⟨x, hx⟩ : ∃ x, xs[q]? = some x := ⟨_, List.getElem?_eq_getElem hq2⟩
    have hw : (wsX c xs)[q]? = some (whatC c x.addr) := by rw [List.getElem?_map, hx]; rfl
    have cW := what_c c hs x.addr (ha x (List.mem_of_getElem? hx))
    have hb := whatC_b c x.addr
    have hn := cnS9_next hw
    have hM := cnS9_len (wsX c xs) q
    have hle := cnS9_le (wsX c xs) q (whatC c x.addr).1.toNat
    obtain ⟨k, hk⟩ : ∃ k : Nat, (whatC c x.addr).1 = (k : Int) := ⟨(whatC c x.addr).1.toNat, by omega⟩
    have hkt : (whatC c x.addr).1.toNat = k := by omega
    rw [hkt] at hn hle
    obtain ⟨y, hy⟩ : ∃ y, (cnS9 (wsX c xs) q)[k]? = some y := ⟨_, List.getElem?_eq_getElem (by omega)⟩
    rw [List.getD_eq_getElem?_getD, hy, Option.getD_some] at hn hle
    unfold aW at cW
    rw [hk] at cW hb
    clear hk hkt hw
    generalize (whatC c x.addr).2.1 = o1 at *
    generalize (whatC c x.addr).2.2 = o2 at *
    generalize cnS9 (wsX c xs) q = M at *
    have hM1 : (M.map tI).length = 11 := by rw [List.length_map, hM]
    obtain ⟨xa, xo, xn⟩ := x
    dsimp only at cW
    repeat' (first | ((with_reducible refine kAL ?_); (first | (refine kL 720 rfl ?_; first | refine A_make rfl rfl 22 _ _ rfl ud22 inf3 rfl (zs := [(.v (.int .i64 0))]) rfl rfl rfl _ (by first | rfl | assumption | omega) (by first | rfl | assumption | omega) qB qB (by first | exact qN) (.push qL qN) ?_) | (refine kL 2122 rfl ?_; first | refine uK (cW) ?_) | refine uA ?_)) | refine uC ?_ | refine kcp rfl (fun hc => ?_) (fun hc => ?_) | refine kcn rfl (fun hc => ?_) (fun hc => ?_) | refine kcb rfl (fun hc => ?_) (fun hc => ?_) | refine kcc rfl (fun hc => ?_) (fun hc => ?_) | fail)
    all_goals first | (exfalso; omega) | skip
    refine ⟨q + 1, by omega, by omega, ?_⟩
    rw [hn]
    exact Wk.cq 2
   ·have e : q = xs.length := by omega
    subst e
    generalize cnS9 (wsX c xs) xs.length = M at *
    repeat' (first | ((with_reducible refine kAL ?_); (first | (refine kL 720 rfl ?_; first | refine A_make rfl rfl 22 _ _ rfl ud22 inf3 rfl (zs := [(.v (.int .i64 0))]) rfl rfl rfl _ (by first | rfl | assumption | omega) (by first | rfl | assumption | omega) qB qB (by first | exact qN) (.push qL qN) ?_) | refine uA ?_)) | refine uC ?_ | refine kcp rfl (fun hc => ?_) (fun hc => ?_) | refine kcn rfl (fun hc => ?_) (fun hc => ?_) | refine kcb rfl (fun hc => ?_) (fun hc => ?_) | refine kcc rfl (fun hc => ?_) (fun hc => ?_) | fail)
    all_goals first | (exfalso; omega) | ((first | exact Fin.q Try.results41 (.cons (.tmp rfl) .nil) [1] | refine Fin.q Try.results41 (.cons (.tmp rfl) .nil) [1] (hr := (.t ?_)) | refine Fin.mkv (rs := _) Try.results41 (.cons (.tmp rfl) .nil) [1] (by decide) rfl ?_ ?_ ?_ <;> repeat' (skip; first | exact .nil | refine .cons rfl ?_ ?_ | refine .cons ?_ ?_ | refine .row ?_ | refine .rset ?_ | refine .box ?_ | exact .gone | refine .aggL ?_ | refine .tupL ?_ | refine .old rfl ?_ | refine .new rfl rfl rfl ?_ | exact .nl | exact .optr rfl | exact .nptr rfl rfl rfl | refine .t ?_ | exact .any _ | rfl)))
 generalize hC : cnS9 (wsX c xs) xs.length = C at *
 have hL : C.length = 11 := by rw [← hC, cnS9_len]
 rw [← hL] at h0
 have h0' := Cd.frz1 h0 0 rfl (by repeat' (first | exact FzL.nil | apply FzL.cons | exact FzR.nlt | exact FzR.all (by first | rfl | (simp <;> fail) | (simp; omega)) | exact FzR.sl (by first | exact Nat.le_refl _ | (simp <;> fail) | (simp; omega)) | apply FzR.aggL | exact FzR.same _)) rfl; exact Cd.drop h0' rfl
theorem wsX_b {c : DConf} {xs : List DXg} : ∀ w ∈ wsX c xs, w.1 ≤ 10 := fun w hw => by
 obtain ⟨x, _, rfl⟩ := List.mem_map.1 hw
 exact (whatC_b c x.addr).2
theorem dnodes_c (c : DConf) (hs : c.start.length ≤ 1152921504606846976) (xs : List DXg) (hx : xs.length ≤ 5864062014805) (ha : ∀ x ∈ xs, sI x.addr) : Cd Try.prog 42 [aCf c, .ln (xs.map tXg)] (.t (.lst ((refW (wsX c xs) xs.length).map tI))) [] := by
 have h1 : (xs.map tXg).length = xs.length := List.length_map _
 have hE : cmQ (srtL (nodW (wsX c xs) xs.length)) (srtL (nodW (wsX c xs) xs.length)).length = refW (wsX c xs) xs.length := by
  have := nodes_eq (ws := wsX c xs) wsX_b
  rwa [show (wsX c xs).length = xs.length from List.length_map _] at this
 rw [← hE]
 clear hE
 have h0 : Cd Try.prog 42 [aCf c, .ln (xs.map tXg)] (.sl 0 0 (cmQ (srtL (nodW (wsX c xs) xs.length)) (srtL (nodW (wsX c xs) xs.length)).length).length) [.row 0 3 1 ((cmQ (srtL (nodW (wsX c xs) xs.length)) (srtL (nodW (wsX c xs) xs.length)).length).map tI)] := by
  refine Cd.enter' Try.func42 rfl Try.ntmps42 rfl ?_
  repeat' (first | ((with_reducible refine kAL ?_); (first | (refine kL 12 rfl ?_; first | refine A_append_nlsub rfl rfl _ _ 22 rfl ud22 inf3 rfl rfl rfl rfl (by (try simp only [List.length_map, List.length_append, List.length_cons, List.length_nil]); omega) qB qB List.map_drop.symm (.push qL qN) ?_) | (refine kL 719 rfl ?_; first | refine A_lit rfl rfl 22 1 _ rfl ud22 inf3 (.cons rfl .nil) (els := [[_]]) rfl (by first | exact qN) rfl (Nat.ne_of_beq_eq_false rfl) (Nat.le_of_ble_eq_true rfl) (Nat.le_of_ble_eq_true rfl) (.push qL qN) ?_) | refine uA ?_ | refine uS 27 (fun hb => ?_) (fun hb => ?_))) | refine uC ?_ | refine kcp rfl (fun hc => ?_) (fun hc => ?_) | refine kcn rfl (fun hc => ?_) (fun hc => ?_) | refine kcb rfl (fun hc => ?_) (fun hc => ?_) | refine kcc rfl (fun hc => ?_) (fun hc => ?_) | fail)
  all_goals first | (exfalso; omega) | skip
  refine AW.wk (Wk.own 5 rfl 3 1 (.push rfl rfl)) ?_
  refine AW.loopP (fun (q : Nat) => q ≤ xs.length) (fun (q : Nat) => (pu (pu (pu (pu (pu (fun _ => .any) 2 (.ptr 0 0)) 5 (.sl 1 (nodW (wsX c xs) q).length (nodW (wsX c xs) q).length)) 11 (.ln (xs.map tXg))) 12 (i64 xs.length)) 13 (i64 q))) (fun (q : Nat) => [.box 79 [i64 c.kind, i64 c.threads, i64 c.chans, i64 c.cap, i64 c.nodes, i64 c.retire, i64 c.patience, i64 c.tags, i64 c.seqs, i64 c.gens, .ln (c.start.map tI)], .row (nodW (wsX c xs) q).length 3 1 ((nodW (wsX c xs) q).map tI)]) (fun (q : Nat) => xs.length - q) (0) ?_ ?_ ?_
  ·exact Nat.zero_le _
  ·rw [h1, show nodW (wsX c xs) 0 = [] from rfl]
   exact Wk.cq 2
  ·intro q hq
   have hL := nodW_len (wsX c xs) q
   by_cases hq2 : q < xs.length
   ·obtain ⟨x, hx⟩ : ∃ x, xs[q]? = some x := ⟨_, List.getElem?_eq_getElem hq2⟩
    have hw : (wsX c xs)[q]? = some (whatC c x.addr) := by rw [List.getElem?_map, hx]; rfl
    have cW := what_c c hs x.addr (ha x (List.mem_of_getElem? hx))
    unfold aW at cW
    by_cases h9 : (whatC c x.addr).1 = 9 ∨ (whatC c x.addr).1 = 10
    ·have hn := nodW_yes hw h9
     clear hw
     generalize (whatC c x.addr).1 = o0 at *
     generalize (whatC c x.addr).2.1 = o1 at *
     generalize (whatC c x.addr).2.2 = o2 at *
     generalize nodW (wsX c xs) q = M at *
     have hM1 : (M.map tI).length = M.length := List.length_map _
     obtain ⟨xa, xo, xn⟩ := x
     dsimp only at cW
     rcases h9 with rfl | rfl
     all_goals
      repeat' (first | ((with_reducible refine kAL ?_); (first | (refine kL 12 rfl ?_; first | refine A_append_nlsub rfl rfl _ _ 22 rfl ud22 inf3 rfl rfl rfl rfl (by (try simp only [List.length_map, List.length_append, List.length_cons, List.length_nil]); omega) qB qB List.map_drop.symm (.push qL qN) ?_) | (refine kL 2122 rfl ?_; first | refine uK (cW) ?_) | (refine kL 719 rfl ?_; first | refine A_lit rfl rfl 22 1 _ rfl ud22 inf3 (.cons rfl .nil) (els := [[_]]) rfl (by first | exact (rfl : _ = List.map tI [_]) | exact qN) rfl (Nat.ne_of_beq_eq_false rfl) (Nat.le_of_ble_eq_true rfl) (Nat.le_of_ble_eq_true rfl) (.push qL qN) ?_) | refine uA ?_ | refine uS 27 (fun hb => ?_) (fun hb => ?_))) | refine uC ?_ | refine kcp rfl (fun hc => ?_) (fun hc => ?_) | refine kcn rfl (fun hc => ?_) (fun hc => ?_) | refine kcb rfl (fun hc => ?_) (fun hc => ?_) | refine kcc rfl (fun hc => ?_) (fun hc => ?_) | fail)
      all_goals first | (exfalso; omega) | skip
      refine ⟨q + 1, by omega, by omega, ?_⟩
      rw [hn, List.length_append]
      exact Wk.cq 2
    ·have hn := nodW_no hw h9
     clear hw
     generalize (whatC c x.addr).1 = o0 at *
     generalize (whatC c x.addr).2.1 = o1 at *
     generalize (whatC c x.addr).2.2 = o2 at *
     generalize nodW (wsX c xs) q = M at *
     have hM1 : (M.map tI).length = M.length := List.length_map _
     obtain ⟨xa, xo, xn⟩ := x
     dsimp only at cW
     have g1 : ¬ o0 = 9 := fun e => h9 (.inl e)
     have g2 : ¬ o0 = 10 := fun e => h9 (.inr e)
     repeat' (first | ((with_reducible refine kAL ?_); (first | (refine kL 12 rfl ?_; first | refine A_append_nlsub rfl rfl _ _ 22 rfl ud22 inf3 rfl rfl rfl rfl (by (try simp only [List.length_map, List.length_append, List.length_cons, List.length_nil]); omega) qB qB List.map_drop.symm (.push qL qN) ?_) | (refine kL 2122 rfl ?_; first | refine uK (cW) ?_) | (refine kL 719 rfl ?_; first | refine A_lit rfl rfl 22 1 _ rfl ud22 inf3 (.cons rfl .nil) (els := [[_]]) rfl (by first | exact qN) rfl (Nat.ne_of_beq_eq_false rfl) (Nat.le_of_ble_eq_true rfl) (Nat.le_of_ble_eq_true rfl) (.push qL qN) ?_) | refine uA ?_ | refine uS 27 (fun hb => ?_) (fun hb => ?_))) | refine uC ?_ | refine kcp rfl (fun hc => ?_) (fun hc => ?_) | refine kcn rfl (fun hc => ?_) (fun hc => ?_) | refine kcb rfl (fun hc => ?_) (fun hc => ?_) | refine kcc rfl (fun hc => ?_) (fun hc => ?_) | fail)
     all_goals first | (exfalso; omega) | skip
     refine ⟨q + 1, by omega, by omega, ?_⟩
     rw [hn]
     exact Wk.cq 2
   ·have e : q = xs.length := by omega
    subst e
    generalize nodW (wsX c xs) xs.length = M at *
    have cS := sort_c (k := M.length) (E := 3) M (by omega)
    have hS := srtL_len M
    have cC := compact_c (k := M.length) (srtL M) (by omega)
    rw [hS] at cC
    generalize srtL M = S at *
    rw [hS]
    repeat' (first | ((with_reducible refine kAL ?_); (first | (refine kL 12 rfl ?_; first | refine A_append_nlsub rfl rfl _ _ 22 rfl ud22 inf3 rfl rfl rfl rfl (by (try simp only [List.length_map, List.length_append, List.length_cons, List.length_nil]); omega) qB qB List.map_drop.symm (.push qL qN) ?_) | (refine kL 719 rfl ?_; first | refine A_lit rfl rfl 22 1 _ rfl ud22 inf3 (.cons rfl .nil) (els := [[_]]) rfl (by first | exact qN) rfl (Nat.ne_of_beq_eq_false rfl) (Nat.le_of_ble_eq_true rfl) (Nat.le_of_ble_eq_true rfl) (.push qL qN) ?_) | (refine kL 1866 rfl ?_; first | refine uI [1] (cS) ?_) | (refine kL 2154 rfl ?_; first | refine uI [1] (cC) ?_) | refine uA ?_ | refine uS 27 (fun hb => ?_) (fun hb => ?_))) | refine uC ?_ | refine kcp rfl (fun hc => ?_) (fun hc => ?_) | refine kcn rfl (fun hc => ?_) (fun hc => ?_) | refine kcb rfl (fun hc => ?_) (fun hc => ?_) | refine kcc rfl (fun hc => ?_) (fun hc => ?_) | fail)
    all_goals first | (exfalso; omega) | ((first | exact Fin.q Try.results42 (.cons (.tmp rfl) .nil) [1] | refine Fin.q Try.results42 (.cons (.tmp rfl) .nil) [1] (hr := (.t ?_)) | refine Fin.mkv (rs := _) Try.results42 (.cons (.tmp rfl) .nil) [1] (by decide) rfl ?_ ?_ ?_ <;> repeat' (skip; first | exact .nil | refine .cons rfl ?_ ?_ | refine .cons ?_ ?_ | refine .row ?_ | refine .rset ?_ | refine .box ?_ | exact .gone | refine .aggL ?_ | refine .tupL ?_ | refine .old rfl ?_ | refine .new rfl rfl rfl ?_ | exact .nl | exact .optr rfl | exact .nptr rfl rfl rfl | refine .t ?_ | exact .any _ | rfl)))
 generalize cmQ (srtL (nodW (wsX c xs) xs.length)) (srtL (nodW (wsX c xs) xs.length)).length = C at *
 have h0' := Cd.frz1 h0 0 rfl (by repeat' (first | exact FzL.nil | apply FzL.cons | exact FzR.nlt | exact FzR.all (by first | rfl | (simp <;> fail) | (simp; omega)) | exact FzR.sl (by first | exact Nat.le_refl _ | (simp <;> fail) | (simp; omega)) | apply FzR.aggL | exact FzR.same _)) rfl; exact Cd.drop h0' rfl
theorem diffSorts_c (c : DConf) (hs : c.start.length ≤ 1152921504606846976) (xs : List DXg) (hx : xs.length ≤ 5864062014805) (ha : ∀ x ∈ xs, sI x.addr) : Cd Try.prog 9 [aCf c, .ln (xs.map tXg)] (bo true) [] := by
 have h1 : (xs.map tXg).length = xs.length := List.length_map _
 have cS := sorts_c c hs xs hx ha
 have cN := dnodes_c c hs xs hx ha
 have cA := awake39_c
 refine Cd.enter' Try.func9 rfl Try.ntmps9 rfl ?_
 repeat' (first | ((with_reducible refine kAL ?_); (first | (refine kL 1 rfl ?_; first | ((first | refine A_as (d := 6) rfl rfl rfl rfl ?_ | refine A_move (d := 6) rfl rfl _ (.inr rfl) (y := .sl _ _ _) rfl ?_ | refine A_move (d := 6) rfl rfl _ (.inr rfl) (y := .nl) rfl ?_ | refine A_move (d := 6) rfl rfl _ (.inr rfl) (y := .ptr _ _) rfl ?_ | refine A_move (d := 6) rfl rfl _ (.inr rfl) (y := .ln _) rfl ?_ | refine A_move (d := 6) rfl rfl _ (.inr rfl) (y := .lp _) rfl ?_ | refine A_move (d := 6) rfl rfl _ (.inr rfl) (y := .fn _ _ _) rfl ?_ | refine A_move (d := 6) rfl rfl _ (.inr rfl) (y := .sub _ _ _ _) rfl ?_ | refine A_move (d := 6) rfl rfl _ (.inr rfl) (y := .rp _ _ _ _) rfl ?_ | refine A_move (d := 6) rfl rfl _ (.inr rfl) (y := .agg _) rfl ?_ | refine A_move (d := 6) rfl rfl _ (.inr rfl) (y := .tup _) rfl ?_ | refine A_move (d := 6) rfl rfl _ (.inr rfl) (y := .mv _) rfl ?_ | refine A_move (d := 6) rfl rfl _ (.inr rfl) (y := .cl _) rfl ?_); (try refine uz 6 ?_))) | (refine kL 720 rfl ?_; first | refine A_make rfl rfl 22 _ _ rfl ud22 inf3 rfl (zs := [(.v (.int .i64 0))]) rfl rfl rfl 11 (by first | rfl | assumption | omega) (by first | rfl | assumption | omega) qB qB (by first | exact qN) (.push qL qN) ?_ | refine A_make rfl rfl 22 _ _ rfl ud22 inf3 rfl (zs := [(.v (.int .i64 0))]) rfl rfl rfl _ (by first | rfl | assumption | omega) (by first | rfl | assumption | omega) qB qB (by first | exact qN) (.push qL qN) ?_) | refine uA ?_ | refine uS 36 (fun hb => ?_) (fun hb => ?_) | refine uS 46 (fun hb => ?_) (fun hb => ?_) | refine uS 74 (fun hb => ?_) (fun hb => ?_) | refine uS 81 (fun hb => ?_) (fun hb => ?_))) | ((with_reducible refine kRG ?_); (first | (refine kR 719 rfl ?_; first | refine R_lit rfl rfl 22 1 _ rfl ud22 inf3 (.cons rfl .nil) (els := [[_]]) rfl (by first | exact qN) rfl (Nat.ne_of_beq_eq_false rfl) (Nat.le_of_ble_eq_true rfl) (Nat.le_of_ble_eq_true rfl) qh qN ?_) | refine uR ?_)) | refine uC ?_ | refine kcp rfl (fun hc => ?_) (fun hc => ?_) | refine kcn rfl (fun hc => ?_) (fun hc => ?_) | refine kcb rfl (fun hc => ?_) (fun hc => ?_) | refine kcc rfl (fun hc => ?_) (fun hc => ?_) | refine AW.drawU (id := 12) mixed 4 qR ?_ | fail)
 all_goals first | (exfalso; omega) | skip
 rw [h1]
 refine AW.loopP (fun (q : Nat) => q ≤ xs.length) (fun (q : Nat) => (pu (pu (pu (pu (pu (pu (pu (fun _ => .any) 2 (.ptr 0 0)) 5 (.sl 1 0 11)) 6 (.t (.lst ((refW (wsX c xs) q).map tI)))) 14 (.ln (xs.map tXg))) 15 (i64 xs.length)) 16 (i64 q)) 1 (.ln (xs.map tXg)))) (fun (q : Nat) => [.box 79 [i64 c.kind, i64 c.threads, i64 c.chans, i64 c.cap, i64 c.nodes, i64 c.retire, i64 c.patience, i64 c.tags, i64 c.seqs, i64 c.gens, .ln (c.start.map tI)], .row 0 3 1 ((cnS9 (wsX c xs) q).map tI)]) (fun (q : Nat) => xs.length - q) (0) ?_ ?_ ?_
 ·exact Nat.zero_le _
 ·exact Wk.cq 2
 ·intro q hq
  have hL := refW_len (ws := wsX c xs) q
  by_cases hq2 : q < xs.length
  ·obtain ⟨x, hx⟩ : ∃ x, xs[q]? = some x := ⟨_, List.getElem?_eq_getElem hq2⟩
   have hw : (wsX c xs)[q]? = some (whatC c x.addr) := by rw [List.getElem?_map, hx]; rfl
   have cW := rwhat_c c hs x.addr (ha x (List.mem_of_getElem? hx))
   have hb := whatC_b c x.addr
   have hn := cnS9_next hw
   have hM := cnS9_len (wsX c xs) q
   have hle := cnS9_le (wsX c xs) q (whatC c x.addr).1.toNat
   have hy9 := fun h => refW_yes hw h
   have hn9 := fun h => refW_no hw h
   obtain ⟨k, hk⟩ : ∃ k : Nat, (whatC c x.addr).1 = (k : Int) := ⟨(whatC c x.addr).1.toNat, by omega⟩
   have hkt : (whatC c x.addr).1.toNat = k := by omega
   rw [hkt] at hn hle
   obtain ⟨y, hy⟩ : ∃ y, (cnS9 (wsX c xs) q)[k]? = some y := ⟨_, List.getElem?_eq_getElem (by omega)⟩
   rw [List.getD_eq_getElem?_getD, hy, Option.getD_some] at hn hle
   unfold aW at cW
   rw [hk] at cW hb hy9 hn9
   clear hk hkt hw
   generalize (whatC c x.addr).2.1 = o1 at *
   generalize (whatC c x.addr).2.2 = o2 at *
   generalize cnS9 (wsX c xs) q = M at *
   generalize refW (wsX c xs) q = N at *
   have hM1 : (M.map tI).length = 11 := by rw [List.length_map, hM]
   have hN1 : (N.map tI).length = N.length := List.length_map _
   obtain ⟨xa, xo, xn⟩ := x
   dsimp only at cW
   have cH := has_c N o1 (by omega)
   by_cases h9 : 9 ≤ (k : Int)
   ·have hN := hy9 h9
    clear hy9 hn9
    by_cases hm : o1 ∈ N
    ·rw [decide_eq_true hm] at cH
     rw [show insN N o1 = N from if_pos hm] at hN
     repeat' (first | ((with_reducible refine kAL ?_); (first | (refine kL 720 rfl ?_; first | refine A_make rfl rfl 22 _ _ rfl ud22 inf3 rfl (zs := [(.v (.int .i64 0))]) rfl rfl rfl _ (by first | rfl | assumption | omega) (by first | rfl | assumption | omega) qB qB (by first | exact qN) (.push qL qN) ?_) | (refine kL 1258 rfl ?_; first | refine uK (cW) ?_) | (refine kL 1290 rfl ?_; first | refine uK (cH) ?_) | refine uA ?_ | refine uS 36 (fun hb => ?_) (fun hb => ?_) | refine uS 46 (fun hb => ?_) (fun hb => ?_) | refine uS 74 (fun hb => ?_) (fun hb => ?_) | refine uS 81 (fun hb => ?_) (fun hb => ?_))) | ((with_reducible refine kRG ?_); (first | (refine kR 719 rfl ?_; first | refine R_lit rfl rfl 22 1 _ rfl ud22 inf3 (.cons rfl .nil) (els := [[_]]) rfl (by first | exact qN) rfl (Nat.ne_of_beq_eq_false rfl) (Nat.le_of_ble_eq_true rfl) (Nat.le_of_ble_eq_true rfl) qh qN ?_) | refine uR ?_)) | refine uC ?_ | refine kcp rfl (fun hc => ?_) (fun hc => ?_) | refine kcn rfl (fun hc => ?_) (fun hc => ?_) | refine kcb rfl (fun hc => ?_) (fun hc => ?_) | refine kcc rfl (fun hc => ?_) (fun hc => ?_) | refine AW.drawU (id := 12) mixed 4 qR ?_ | fail)
     all_goals first | (exfalso; omega) | skip
     refine ⟨q + 1, by omega, by omega, ?_⟩
     rw [hn, hN]
     exact Wk.cq 2
    ·rw [decide_eq_false hm] at cH
     rw [show insN N o1 = N.take (plN N o1) ++ [o1] ++ N.drop (plN N o1) from if_neg hm] at hN
     repeat' (first | ((with_reducible refine kAL ?_); (first | (refine kL 720 rfl ?_; first | refine A_make rfl rfl 22 _ _ rfl ud22 inf3 rfl (zs := [(.v (.int .i64 0))]) rfl rfl rfl _ (by first | rfl | assumption | omega) (by first | rfl | assumption | omega) qB qB (by first | exact qN) (.push qL qN) ?_) | (refine kL 1258 rfl ?_; first | refine uK (cW) ?_) | (refine kL 1290 rfl ?_; first | refine uK (cH) ?_) | refine uA ?_ | refine uS 36 (fun hb => ?_) (fun hb => ?_) | refine uS 46 (fun hb => ?_) (fun hb => ?_) | refine uS 74 (fun hb => ?_) (fun hb => ?_) | refine uS 81 (fun hb => ?_) (fun hb => ?_))) | ((with_reducible refine kRG ?_); (first | (refine kR 719 rfl ?_; first | refine R_lit rfl rfl 22 1 _ rfl ud22 inf3 (.cons rfl .nil) (els := [[_]]) rfl (by first | exact qN) rfl (Nat.ne_of_beq_eq_false rfl) (Nat.le_of_ble_eq_true rfl) (Nat.le_of_ble_eq_true rfl) qh qN ?_) | refine uR ?_)) | refine uC ?_ | refine kcp rfl (fun hc => ?_) (fun hc => ?_) | refine kcn rfl (fun hc => ?_) (fun hc => ?_) | refine kcb rfl (fun hc => ?_) (fun hc => ?_) | refine kcc rfl (fun hc => ?_) (fun hc => ?_) | refine AW.drawU (id := 12) mixed 4 qR ?_ | fail)
     all_goals first | (exfalso; omega) | skip
     rw [← hn]
     generalize hM2 : cnS9 (wsX c xs) (q + 1) = M2 at *
     refine AW.loopP (fun (j : Nat) => j ≤ N.length ∧ ∀ i x, i < j → N[i]? = some x → x < o1) (fun (j : Nat) => (pu (pu (pu (pu (pu (pu (pu (pu (pu (fun _ => .any) 2 (.ptr 0 0)) 5 (.sl 1 0 11)) 6 (.t (.lst (N.map tI)))) 10 (i64 o1)) 12 (i64 j)) 14 (.ln (xs.map tXg))) 15 (i64 xs.length)) 16 (i64 q)) 1 (.ln (xs.map tXg)))) (fun (j : Nat) => [.box 79 [i64 c.kind, i64 c.threads, i64 c.chans, i64 c.cap, i64 c.nodes, i64 c.retire, i64 c.patience, i64 c.tags, i64 c.seqs, i64 c.gens, .ln (c.start.map tI)], .row 0 3 1 (M2.map tI)]) (fun (j : Nat) => N.length - j) (0) ?_ ?_ ?_
     ·exact ⟨Nat.zero_le _, fun i x hi => by omega⟩
     ·exact Wk.cq 2
     ·rintro j ⟨hj, hlt⟩
      have fin_ : ∀ (hst : ∀ x, N[j]? = some x → ¬ x < o1), (N.take j ++ [o1]) ++ (N.drop j).take (N.length - j) = refW (wsX c xs) (q + 1) := fun hst => by
       rw [hN, plN_of hj hlt hst, show (N.drop j).take (N.length - j) = N.drop j from List.take_of_length_le (by rw [List.length_drop]; exact Nat.le_refl _)]
      have hta : ((N.take j).map tI).length = j := by rw [List.length_map, List.length_take]; omega
      have hda : (((N.drop j).take (N.length - j)).map tI).length = N.length - j := by rw [List.length_map, List.length_take, List.length_drop]; omega
      have hta2 : (N.take j).length = j := by rw [List.length_take]; omega
      have hda2 : ((N.drop j).take (N.length - j)).length = N.length - j := by rw [List.length_take, List.length_drop]; omega
      by_cases hj2 : j < N.length
      ·obtain ⟨z, hz⟩ : ∃ z, N[j]? = some z := ⟨_, List.getElem?_eq_getElem hj2⟩
       by_cases hzo : z < o1
       ·clear fin_ hta hda hta2 hda2
        repeat' (first | ((with_reducible refine kAL ?_); (first | (refine kL 720 rfl ?_; first | refine A_make rfl rfl 22 _ _ rfl ud22 inf3 rfl (zs := [(.v (.int .i64 0))]) rfl rfl rfl _ (by first | rfl | assumption | omega) (by first | rfl | assumption | omega) qB qB (by first | exact qN) (.push qL qN) ?_) | refine uA ?_ | refine uS 36 (fun hb => ?_) (fun hb => ?_) | refine uS 46 (fun hb => ?_) (fun hb => ?_) | refine uS 74 (fun hb => ?_) (fun hb => ?_) | refine uS 81 (fun hb => ?_) (fun hb => ?_))) | ((with_reducible refine kRG ?_); (first | (refine kR 719 rfl ?_; first | refine R_lit rfl rfl 22 1 _ rfl ud22 inf3 (.cons rfl .nil) (els := [[_]]) rfl (by first | exact qN) rfl (Nat.ne_of_beq_eq_false rfl) (Nat.le_of_ble_eq_true rfl) (Nat.le_of_ble_eq_true rfl) qh qN ?_) | refine uR ?_)) | refine uC ?_ | refine kcp rfl (fun hc => ?_) (fun hc => ?_) | refine kcn rfl (fun hc => ?_) (fun hc => ?_) | refine kcb rfl (fun hc => ?_) (fun hc => ?_) | refine kcc rfl (fun hc => ?_) (fun hc => ?_) | refine AW.drawU (id := 12) mixed 4 qR ?_ | fail)
        all_goals first | (exfalso; omega) | skip
        refine ⟨j + 1, ⟨by omega, fun i x hi hxi => ?_⟩, by omega, ?_⟩
        ·by_cases e : i = j
         ·subst e; rw [hz] at hxi; cases hxi; exact hzo
         ·exact hlt i x (by omega) hxi
        ·exact Wk.cq 2
       ·have hd := fin_ fun x hxx => by rw [hz] at hxx; cases hxx; exact hzo
        clear fin_
        repeat' (first | ((with_reducible refine kAL ?_); (first | (refine kL 720 rfl ?_; first | refine A_make rfl rfl 22 _ _ rfl ud22 inf3 rfl (zs := [(.v (.int .i64 0))]) rfl rfl rfl _ (by first | rfl | assumption | omega) (by first | rfl | assumption | omega) qB qB (by first | exact rep_map (f := tI) (x := _) | exact qN) (.push qL qN) ?_) | refine uA ?_ | refine uS 36 (fun hb => ?_) (fun hb => ?_) | refine uS 46 (fun hb => ?_) (fun hb => ?_) | refine uS 74 (fun hb => ?_) (fun hb => ?_) | refine uS 81 (fun hb => ?_) (fun hb => ?_))) | ((with_reducible refine kRG ?_); (first | (refine kR 719 rfl ?_; first | refine R_lit rfl rfl 22 1 _ rfl ud22 inf3 (.cons rfl .nil) (els := [[_]]) rfl (by first | exact (rfl : _ = List.map tI [_]) | exact qN) rfl (Nat.ne_of_beq_eq_false rfl) (Nat.le_of_ble_eq_true rfl) (Nat.le_of_ble_eq_true rfl) qh qN ?_) | refine uR ?_)) | refine uC ?_ | refine kcp rfl (fun hc => ?_) (fun hc => ?_) | refine kcn rfl (fun hc => ?_) (fun hc => ?_) | refine kcb rfl (fun hc => ?_) (fun hc => ?_) | refine kcc rfl (fun hc => ?_) (fun hc => ?_) | refine AW.drawU (id := 12) mixed 4 qR ?_ | fail)
        all_goals first | (exfalso; omega) | skip
        refine ⟨q + 1, by omega, by omega, ?_⟩
        refine Wk.trans (Wk.freeze 2 rfl 6 rfl (.all (by first | (simp only [List.length_map, List.length_append, List.length_singleton]; done) | (simp; done) | (simp; omega))) rfl) ?_
        rw [hM2, ← hd]
        exact Wk.cq 2
      ·have hd := fin_ fun x hxx => by rw [List.getElem?_eq_none (by omega)] at hxx; cases hxx
       clear fin_
       obtain rfl : j = N.length := by omega
       repeat' (first | ((with_reducible refine kAL ?_); (first | (refine kL 720 rfl ?_; first | refine A_make rfl rfl 22 _ _ rfl ud22 inf3 rfl (zs := [(.v (.int .i64 0))]) rfl rfl rfl _ (by first | rfl | assumption | omega) (by first | rfl | assumption | omega) qB qB (by first | exact rep_map (f := tI) (x := _) | exact qN) (.push qL qN) ?_) | refine uA ?_ | refine uS 36 (fun hb => ?_) (fun hb => ?_) | refine uS 46 (fun hb => ?_) (fun hb => ?_) | refine uS 74 (fun hb => ?_) (fun hb => ?_) | refine uS 81 (fun hb => ?_) (fun hb => ?_))) | ((with_reducible refine kRG ?_); (first | (refine kR 719 rfl ?_; first | refine R_lit rfl rfl 22 1 _ rfl ud22 inf3 (.cons rfl .nil) (els := [[_]]) rfl (by first | exact (rfl : _ = List.map tI [_]) | exact qN) rfl (Nat.ne_of_beq_eq_false rfl) (Nat.le_of_ble_eq_true rfl) (Nat.le_of_ble_eq_true rfl) qh qN ?_) | refine uR ?_)) | refine uC ?_ | refine kcp rfl (fun hc => ?_) (fun hc => ?_) | refine kcn rfl (fun hc => ?_) (fun hc => ?_) | refine kcb rfl (fun hc => ?_) (fun hc => ?_) | refine kcc rfl (fun hc => ?_) (fun hc => ?_) | refine AW.drawU (id := 12) mixed 4 qR ?_ | fail)
       all_goals first | (exfalso; omega) | skip
       refine ⟨q + 1, by omega, by omega, ?_⟩
       refine Wk.trans (Wk.freeze 2 rfl 6 rfl (.all (by first | (simp only [List.length_map, List.length_append, List.length_singleton]; done) | (simp; done) | (simp; omega))) rfl) ?_
       rw [hM2, ← hd]
       exact Wk.cq 2
   ·have hN := hn9 h9
    clear hy9 hn9
    repeat' (first | ((with_reducible refine kAL ?_); (first | (refine kL 720 rfl ?_; first | refine A_make rfl rfl 22 _ _ rfl ud22 inf3 rfl (zs := [(.v (.int .i64 0))]) rfl rfl rfl _ (by first | rfl | assumption | omega) (by first | rfl | assumption | omega) qB qB (by first | exact qN) (.push qL qN) ?_) | (refine kL 1258 rfl ?_; first | refine uK (cW) ?_) | (refine kL 1290 rfl ?_; first | refine uK (cH) ?_) | refine uA ?_ | refine uS 36 (fun hb => ?_) (fun hb => ?_) | refine uS 46 (fun hb => ?_) (fun hb => ?_) | refine uS 74 (fun hb => ?_) (fun hb => ?_) | refine uS 81 (fun hb => ?_) (fun hb => ?_))) | ((with_reducible refine kRG ?_); (first | (refine kR 719 rfl ?_; first | refine R_lit rfl rfl 22 1 _ rfl ud22 inf3 (.cons rfl .nil) (els := [[_]]) rfl (by first | exact qN) rfl (Nat.ne_of_beq_eq_false rfl) (Nat.le_of_ble_eq_true rfl) (Nat.le_of_ble_eq_true rfl) qh qN ?_) | refine uR ?_)) | refine uC ?_ | refine kcp rfl (fun hc => ?_) (fun hc => ?_) | refine kcn rfl (fun hc => ?_) (fun hc => ?_) | refine kcb rfl (fun hc => ?_) (fun hc => ?_) | refine kcc rfl (fun hc => ?_) (fun hc => ?_) | refine AW.drawU (id := 12) mixed 4 qR ?_ | fail)
    all_goals first | (exfalso; omega) | skip
    refine ⟨q + 1, by omega, by omega, ?_⟩
    rw [hn, hN]
    exact Wk.cq 2
  ·have e : q = xs.length := by omega
   subst e
   have i1 := ints_c (cnS9 (wsX c xs) xs.length) (cnS9 (wsX c xs) xs.length) (by rw [cnS9_len]; decide)
   have i2 := ints_c (refW (wsX c xs) xs.length) (refW (wsX c xs) xs.length) (by omega)
   have hM := cnS9_len (wsX c xs) xs.length
   rw [decide_eq_true rfl] at i1 i2
   generalize cnS9 (wsX c xs) xs.length = M at *
   generalize refW (wsX c xs) xs.length = N at *
   have hM1 : (M.map tI).length = 11 := by rw [List.length_map, hM]
   refine AW.wk (Wk.freeze 1 rfl 5 rfl (.all (by rw [hM1])) rfl) ?_
   repeat' (first | ((with_reducible refine kAL ?_); (first | (refine kL 720 rfl ?_; first | refine A_make rfl rfl 22 _ _ rfl ud22 inf3 rfl (zs := [(.v (.int .i64 0))]) rfl rfl rfl _ (by first | rfl | assumption | omega) (by first | rfl | assumption | omega) qB qB (by first | exact qN) (.push qL qN) ?_) | (refine kL 1322 rfl ?_; first | refine uK (cS) ?_) | (refine kL 458 rfl ?_; first | refine uK (i1) ?_ | refine uK (i2) ?_) | (refine kL 1354 rfl ?_; first | refine uK (cN) ?_) | (refine kL 810 rfl ?_; first | refine uK (cA) ?_) | refine uA ?_ | refine uS 36 (fun hb => ?_) (fun hb => ?_) | refine uS 46 (fun hb => ?_) (fun hb => ?_) | refine uS 74 (fun hb => ?_) (fun hb => ?_) | refine uS 81 (fun hb => ?_) (fun hb => ?_))) | ((with_reducible refine kRG ?_); (first | (refine kR 719 rfl ?_; first | refine R_lit rfl rfl 22 1 _ rfl ud22 inf3 (.cons rfl .nil) (els := [[_]]) rfl (by first | exact qN) rfl (Nat.ne_of_beq_eq_false rfl) (Nat.le_of_ble_eq_true rfl) (Nat.le_of_ble_eq_true rfl) qh qN ?_) | refine uR ?_)) | refine uC ?_ | refine kcp rfl (fun hc => ?_) (fun hc => ?_) | refine kcn rfl (fun hc => ?_) (fun hc => ?_) | refine kcb rfl (fun hc => ?_) (fun hc => ?_) | refine kcc rfl (fun hc => ?_) (fun hc => ?_) | refine AW.drawU (id := 12) mixed 4 qR ?_ | fail)
   all_goals first | (exfalso; omega) | ((first | exact Fin.q Try.results9 (.cons (.tmp rfl) .nil) [] | refine Fin.q Try.results9 (.cons (.tmp rfl) .nil) [] (hr := (.t ?_)) | refine Fin.mkv (rs := _) Try.results9 (.cons (.tmp rfl) .nil) [] (by decide) rfl ?_ ?_ ?_ <;> repeat' (skip; first | exact .nil | refine .cons rfl ?_ ?_ | refine .cons ?_ ?_ | refine .row ?_ | refine .rset ?_ | refine .box ?_ | exact .gone | refine .aggL ?_ | refine .tupL ?_ | refine .old rfl ?_ | refine .new rfl rfl rfl ?_ | exact .nl | exact .optr rfl | exact .nptr rfl rfl rfl | refine .t ?_ | exact .any _ | rfl)))
end
end Go.Proofs.Ytnibnbcmnaflmaa
