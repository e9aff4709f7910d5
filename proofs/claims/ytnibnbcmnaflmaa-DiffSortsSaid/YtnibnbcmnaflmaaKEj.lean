/- Joined: XTDiffE, XTIdx, XTConI, XTDiffA, XTDiffB, XTAbb, XTShape, XTPlain, XTBit2. -/
import Derived.Test.YtnibnbcmnaflmaaKEh
import Derived.Test.YtnibnbcmnaflmaaKEi
import Derived.Test.YtnibnbcmnaflmaaKEe
import Derived.Test.YtnibnbcmnaflmaaKEd
import Derived.Test.YtnibnbcmnaflmaaKEc
import Derived.Laws.BitsAllLaws
namespace Go.Proofs.Ytnibnbcmnaflmaa
open Go.RowKit
set_option linter.unusedVariables false
set_option linter.unusedSimpArgs false
set_option linter.unnecessarySimpa false
set_option maxRecDepth 100000
set_option maxHeartbeats 64000000
section
attribute [local irreducible] AL AW RG Fin C Cd Cio thenQ blockQ retQ
set_option maxRecDepth 100000
def mpX (C : List DXg) : List (Int × Int) := C.mapIdx fun i x => (x.addr, (i : Int))
theorem mpX_app (C : List DXg) (x : DXg) : mpX (C ++ [x]) = mpX C ++ [(x.addr, (C.length : Int))] := by
 unfold mpX; rw [List.mapIdx_append]; simp
theorem mpX_set {C : List DXg} {i : Nat} {y z : DXg} (h : C[i]? = some y) (hz : z.addr = y.addr) : mpX (C.set i z) = mpX C := by
 unfold mpX
 apply List.ext_getElem?
 intro j
 rw [List.getElem?_mapIdx, List.getElem?_mapIdx, List.getElem?_set]
 split
 ·rename_i e
  subst e
  rw [if_pos (List.getElem?_eq_some_iff.1 h).1, h]
  simp [hz]
 ·rfl
theorem lookE_at : ∀ (es : List (Int × Int)) (k v : Int) (i : Nat), (∀ j, j < i → ∀ p, es[j]? = some p → p.1 ≠ k) → es[i]? = some (k, v) → lookE es k = some v
 | [], k, v, i, _, h => by simp at h
 | p :: es, k, v, 0, _, h => by simp at h; subst h; unfold lookE; simp
 | p :: es, k, v, i + 1, h0, h => by
  have h1 := h0 0 (by omega) p rfl
  have := lookE_at es k v i (fun j hj q hq => h0 (j + 1) (by omega) q (by simpa using hq)) (by simpa using h)
  unfold lookE at *
  rw [List.find?_cons, decide_eq_false h1]; exact this
theorem lookE_no : ∀ (es : List (Int × Int)) (k : Int), (∀ p ∈ es, p.1 ≠ k) → lookE es k = none
 | [], _, _ => rfl
 | p :: es, k, h => by
  have := lookE_no es k fun q hq => h q (List.mem_cons_of_mem _ hq)
  unfold lookE at *
  rw [List.find?_cons, decide_eq_false (h p List.mem_cons_self)]; exact this
theorem look_yes {C : List DXg} {k : Int} (h : fiX C k < C.length) : lookE (mpX C) k = some (fiX C k : Int) := by
 obtain ⟨y, hy, hk⟩ := fiX_lt h
 refine lookE_at _ k _ (fiX C k) (fun j hj p hp => ?_) ?_
 ·unfold mpX at hp
  rw [List.getElem?_mapIdx] at hp
  cases hc : C[j]? with
  | none => rw [hc] at hp; cases hp
  | some z => rw [hc] at hp; cases hp; exact fiX_not hj hc
 ·unfold mpX
  rw [List.getElem?_mapIdx, hy]; simp [hk]
theorem look_no {C : List DXg} {k : Int} (h : ¬ fiX C k < C.length) : lookE (mpX C) k = none := by
 refine lookE_no _ k fun p hp => ?_
 obtain ⟨i, hi⟩ := List.getElem?_of_mem hp
 unfold mpX at hi
 rw [List.getElem?_mapIdx] at hi
 cases hc : C[i]? with
 | none => rw [hc] at hi; cases hi
 | some z =>
  rw [hc] at hi; cases hi
  have := (List.getElem?_eq_some_iff.1 hc).1
  exact fiX_not (by have := fiX_le C k; omega) hc
theorem kpX_nd {C : List DXg} (h : ndX C) : ndX (kpX C) := h.sublist (List.filter_sublist.map _)
theorem srX_kp (C : List DXg) : srX (kpX C) = inR C C.length := by unfold inR; rw [List.take_length]
theorem dThen_c (a b : List DXg) (ha : a.length ≤ 1048576) (hb : b.length ≤ 1048576) : Cd Try.prog 21 [.t (.lst (a.map tXg)), .t (.lst (b.map tXg))] (thA (a ++ b)) [] := by
 have h1 : (a.map tXg).length = a.length := List.length_map _
 have h2 : (b.map tXg).length = b.length := List.length_map _
 have cC := concatX_c a b ha hb
 refine Cd.enter' Try.func21 rfl Try.ntmps21 rfl ?_
 repeat' (first | ((with_reducible refine kAL ?_); (first | (refine kL 4111 rfl ?_; first | refine A_lit rfl rfl 128 2 _ rfl ud128 inf49 (.cons rfl (.cons rfl .nil)) (els := [[_], [_]]) rfl (by first | exact qN) rfl (Nat.ne_of_beq_eq_false rfl) (Nat.le_of_ble_eq_true rfl) (Nat.le_of_ble_eq_true rfl) (.push qL qN) ?_) | (refine kL 1706 rfl ?_; first | refine uK (cC) ?_) | (refine kL 12 rfl ?_; first | refine A_append_nlsub rfl rfl _ _ 49 rfl ud49 inf82 rfl rfl rfl rfl (by (try simp only [List.length_map, List.length_append, List.length_cons, List.length_nil]); omega) qB qB List.map_drop.symm (.push qL qN) ?_) | (refine kL 1583 rfl ?_; first | refine A_lit rfl rfl 49 1 _ rfl ud49 inf82 (.cons rfl .nil) (els := [[_, _, _]]) rfl (by first | exact qN) rfl (Nat.ne_of_beq_eq_false rfl) (Nat.le_of_ble_eq_true rfl) (Nat.le_of_ble_eq_true rfl) (.push qL qN) ?_) | refine uA ?_)) | refine uR ?_ | refine uC ?_ | refine kcp rfl (fun hc => ?_) (fun hc => ?_) | refine kcn rfl (fun hc => ?_) (fun hc => ?_) | refine kcb rfl (fun hc => ?_) (fun hc => ?_) | refine kcc rfl (fun hc => ?_) (fun hc => ?_) | refine AW.drawU (id := 10) mixed 0 qR ?_ | fail)
 all_goals first | (exfalso; omega) | skip
 have hl : (a ++ b).length = a.length + b.length := List.length_append
 have hxl : (a ++ b).length ≤ 2097152 := by omega
 clear cC hl
 generalize a ++ b = xs at *
 have h3 : (xs.map tXg).length = xs.length := List.length_map _
 refine AW.wk (Wk.own 6 rfl 82 3 (.push rfl rfl)) ?_
 refine AW.loopP (fun (q : Nat) => q ≤ xs.length ∧ thE xs q = 0) (fun (q : Nat) => (pu (pu (pu (pu (pu (fun _ => .any) 6 (.sl 3 (thC xs q).length (thC xs q).length)) 7 (.mv 0)) 16 (.sl 2 0 xs.length)) 17 (i64 xs.length)) 18 (i64 q))) (fun (q : Nat) => [.mp (mpX (thC xs q)), .row 0 49 1 [[.lst (a.map tXg)], [.lst (b.map tXg)]], .row 0 82 3 (xs.map tXg), .row (thC xs q).length 82 3 ((thC xs q).map tXg)]) (fun (q : Nat) => xs.length - q) (0) ?_ ?_ ?_
 ·exact ⟨Nat.zero_le _, rfl⟩
 ·rw [show thC xs 0 = [] from rfl]
  exact Wk.cq 4
 ·intro q ⟨hq, h0⟩
  have hC := thC_len xs q
  have hnd := thC_nd xs q
  by_cases hq2 : q < xs.length
  ·obtain ⟨x, hx⟩ : ∃ x, xs[q]? = some x := ⟨_, List.getElem?_eq_getElem hq2⟩
   have hs := fun c => thE_stop (c := c) hx h0
   have hn := thE_next hx h0
   have hc := thC_next hx
   unfold thK at hs hn
   unfold stX at hc
   generalize hCC : thC xs q = C at *
   obtain ⟨xa, xo, xn⟩ := x
   dsimp only at hs hn hc
   have hCl : (C.map tXg).length = C.length := List.length_map _
   by_cases hf : fiX C xa < C.length
   ·have hlk := look_yes hf
    obtain ⟨y, hy, hk⟩ := fiX_lt hf
    rw [if_pos hf, List.getD_eq_getElem?_getD, hy, Option.getD_some] at hs hn hc
    generalize fiX C xa = k at *
    obtain ⟨ya, yo, yn⟩ := y
    dsimp only at hs hn hc hk
    by_cases hw : yn = xo
    ·rw [if_pos hw] at hn
     have hm := mpX_set (z := ⟨ya, yo, xn⟩) hy rfl
     clear hs
     repeat' (first | ((with_reducible refine kAL ?_); (first | (refine kL 4111 rfl ?_; first | refine A_lit rfl rfl 128 2 _ rfl ud128 inf49 (.cons rfl (.cons rfl .nil)) (els := [[_], [_]]) rfl (by first | exact (rfl : _ = List.map tXg [⟨ya, yo, xn⟩]) | exact qN) rfl (Nat.ne_of_beq_eq_false rfl) (Nat.le_of_ble_eq_true rfl) (Nat.le_of_ble_eq_true rfl) (.push qL qN) ?_) | (refine kL 12 rfl ?_; first | refine A_append rfl rfl _ _ 49 rfl ud49 inf82 rfl rfl rfl (by first | exact Nat.le_refl _ | (simp <;> fail) | (simp; omega)) (by first | exact .nl | exact .all rfl (by first | rfl | (simp <;> fail) | (simp; omega)) | exact .lst (by first | exact each_map (fun _ => rfl) | assumption | (simp <;> fail) | fail) | exact .ln (by first | exact each_map (fun _ => rfl) | assumption | (simp <;> fail) | fail) | exact .sl rfl (by first | exact Nat.le_refl _ | (simp <;> fail) | (simp; omega)) | exact .sub rfl (by first | exact Nat.le_refl _ | (simp <;> fail) | (simp; omega))) qB qB (by first | exact app_map (by first | rfl | omega | (simp <;> fail) | fail) | exact app_one (f := tXg) (x := ⟨ya, yo, xn⟩) (by first | rfl | omega | (simp <;> fail) | fail) | exact qN) qN qS ?_ | refine A_append_nl rfl rfl _ _ 49 rfl ud49 inf82 rfl rfl (by first | exact .nl | exact .all rfl (by first | rfl | (simp <;> fail) | (simp; omega)) | exact .lst (by first | exact each_map (fun _ => rfl) | assumption | (simp <;> fail) | fail) | exact .ln (by first | exact each_map (fun _ => rfl) | assumption | (simp <;> fail) | fail) | exact .sl rfl (by first | exact Nat.le_refl _ | (simp <;> fail) | (simp; omega)) | exact .sub rfl (by first | exact Nat.le_refl _ | (simp <;> fail) | (simp; omega))) qB qB (by first | exact (rfl : _ = List.map tXg [⟨ya, yo, xn⟩]) | exact qN) (.push qL qN) qS ?_ | refine A_append_nlsub rfl rfl _ _ 49 rfl ud49 inf82 rfl rfl rfl rfl (by (try simp only [List.length_map, List.length_append, List.length_cons, List.length_nil]); omega) qB qB List.map_drop.symm (.push qL qN) ?_) | (refine kL 2627 rfl ?_; first | refine A_store_rp rfl rfl 82 _ _ rfl inf82 (by decide) rfl rfl (by first | exact map_get (by assumption) | assumption | exact map_get hy | exact map_get hx) rfl rfl rfl (Nat.le_of_ble_eq_true rfl) (by first | exact map_set (f := tXg) (x := ⟨ya, yo, xn⟩) | exact qN) qN ?_) | (refine kL 1583 rfl ?_; first | refine A_lit rfl rfl 49 1 _ rfl ud49 inf82 (.cons rfl .nil) (els := [[_, _, _]]) rfl (by first | exact (rfl : _ = List.map tXg [⟨ya, yo, xn⟩]) | exact qN) rfl (Nat.ne_of_beq_eq_false rfl) (Nat.le_of_ble_eq_true rfl) (Nat.le_of_ble_eq_true rfl) (.push qL qN) ?_) | (refine kL 2563 rfl ?_; first | refine A_store_rp rfl rfl 80 _ _ rfl inf80 (by decide) rfl rfl (by first | exact map_get (by assumption) | assumption | exact map_get hy | exact map_get hx) rfl rfl rfl (Nat.le_of_ble_eq_true rfl) (by first | exact map_set (f := tXg) (x := ⟨ya, yo, xn⟩) | exact qN) qN ?_) | refine uA ?_)) | refine uR ?_ | refine uC ?_ | refine kcp rfl (fun hc => ?_) (fun hc => ?_) | refine kcn rfl (fun hc => ?_) (fun hc => ?_) | refine kcb rfl (fun hc => ?_) (fun hc => ?_) | refine kcc rfl (fun hc => ?_) (fun hc => ?_) | refine AW.drawU (id := 10) mixed 0 qR ?_ | fail)
     all_goals first | (exfalso; omega) | skip
     refine ⟨q + 1, ⟨by omega, hn⟩, by omega, ?_⟩
     rw [hc, List.length_set, hm]
     exact Wk.cq 4
    ·have hE := hs 3 (by rw [if_neg hw]) (by decide)
     unfold thA
     rw [hE, if_neg (by decide)]
     clear hs hn hc
     repeat' (first | ((with_reducible refine kAL ?_); (first | (refine kL 4111 rfl ?_; first | refine A_lit rfl rfl 128 2 _ rfl ud128 inf49 (.cons rfl (.cons rfl .nil)) (els := [[_], [_]]) rfl (by first | exact qN) rfl (Nat.ne_of_beq_eq_false rfl) (Nat.le_of_ble_eq_true rfl) (Nat.le_of_ble_eq_true rfl) (.push qL qN) ?_) | (refine kL 12 rfl ?_; first | refine A_append_nlsub rfl rfl _ _ 49 rfl ud49 inf82 rfl rfl rfl rfl (by (try simp only [List.length_map, List.length_append, List.length_cons, List.length_nil]); omega) qB qB List.map_drop.symm (.push qL qN) ?_) | (refine kL 1583 rfl ?_; first | refine A_lit rfl rfl 49 1 _ rfl ud49 inf82 (.cons rfl .nil) (els := [[_, _, _]]) rfl (by first | exact qN) rfl (Nat.ne_of_beq_eq_false rfl) (Nat.le_of_ble_eq_true rfl) (Nat.le_of_ble_eq_true rfl) (.push qL qN) ?_) | refine uA ?_)) | refine uR ?_ | refine uC ?_ | refine kcp rfl (fun hc => ?_) (fun hc => ?_) | refine kcn rfl (fun hc => ?_) (fun hc => ?_) | refine kcb rfl (fun hc => ?_) (fun hc => ?_) | refine kcc rfl (fun hc => ?_) (fun hc => ?_) | refine AW.drawU (id := 10) mixed 0 qR ?_ | fail)
     all_goals first | (exfalso; omega) | ((first | exact Fin.q Try.results21 (.cons (.tmp rfl) (.cons (.tmp rfl) .nil)) [] | refine Fin.q Try.results21 (.cons (.tmp rfl) (.cons (.tmp rfl) .nil)) [] (hr := (.tupL (.cons (.t ?_) (.cons (.t ?_) .nil)))) | refine Fin.mkv (rs := _) Try.results21 (.cons (.tmp rfl) (.cons (.tmp rfl) .nil)) [] (by decide) rfl ?_ ?_ ?_ <;> repeat' (skip; first | exact .nil | refine .cons rfl ?_ ?_ | refine .cons ?_ ?_ | refine .row ?_ | refine .rset ?_ | refine .box ?_ | exact .gone | refine .aggL ?_ | refine .tupL ?_ | refine .old rfl ?_ | refine .new rfl rfl rfl ?_ | exact .nl | exact .optr rfl | exact .nptr rfl rfl rfl | refine .t ?_ | exact .any _ | rfl)))
   ·have hlk := look_no hf
    rw [if_neg hf] at hn hc
    clear hs
    repeat' (first | ((with_reducible refine kAL ?_); (first | (refine kL 4111 rfl ?_; first | refine A_lit rfl rfl 128 2 _ rfl ud128 inf49 (.cons rfl (.cons rfl .nil)) (els := [[_], [_]]) rfl (by first | exact (rfl : _ = List.map tXg [⟨xa, xo, xn⟩]) | exact qN) rfl (Nat.ne_of_beq_eq_false rfl) (Nat.le_of_ble_eq_true rfl) (Nat.le_of_ble_eq_true rfl) (.push qL qN) ?_) | (refine kL 12 rfl ?_; first | refine A_append rfl rfl _ _ 49 rfl ud49 inf82 rfl rfl rfl (by first | exact Nat.le_refl _ | (simp <;> fail) | (simp; omega)) (by first | exact .nl | exact .all rfl (by first | rfl | (simp <;> fail) | (simp; omega)) | exact .lst (by first | exact each_map (fun _ => rfl) | assumption | (simp <;> fail) | fail) | exact .ln (by first | exact each_map (fun _ => rfl) | assumption | (simp <;> fail) | fail) | exact .sl rfl (by first | exact Nat.le_refl _ | (simp <;> fail) | (simp; omega)) | exact .sub rfl (by first | exact Nat.le_refl _ | (simp <;> fail) | (simp; omega))) qB qB (by first | exact app_map (by first | rfl | omega | (simp <;> fail) | fail) | exact app_one (f := tXg) (x := ⟨xa, xo, xn⟩) (by first | rfl | omega | (simp <;> fail) | fail) | exact qN) qN qS ?_ | refine A_append_nl rfl rfl _ _ 49 rfl ud49 inf82 rfl rfl (by first | exact .nl | exact .all rfl (by first | rfl | (simp <;> fail) | (simp; omega)) | exact .lst (by first | exact each_map (fun _ => rfl) | assumption | (simp <;> fail) | fail) | exact .ln (by first | exact each_map (fun _ => rfl) | assumption | (simp <;> fail) | fail) | exact .sl rfl (by first | exact Nat.le_refl _ | (simp <;> fail) | (simp; omega)) | exact .sub rfl (by first | exact Nat.le_refl _ | (simp <;> fail) | (simp; omega))) qB qB (by first | exact (rfl : _ = List.map tXg [⟨xa, xo, xn⟩]) | exact qN) (.push qL qN) qS ?_ | refine A_append_nlsub rfl rfl _ _ 49 rfl ud49 inf82 rfl rfl rfl rfl (by (try simp only [List.length_map, List.length_append, List.length_cons, List.length_nil]); omega) qB qB List.map_drop.symm (.push qL qN) ?_) | (refine kL 2627 rfl ?_; first | refine A_store_rp rfl rfl 82 _ _ rfl inf82 (by decide) rfl rfl (by first | exact map_get (by assumption) | assumption | exact map_get hx) rfl rfl rfl (Nat.le_of_ble_eq_true rfl) (by first | exact map_set (f := tXg) (x := ⟨xa, xo, xn⟩) | exact qN) qN ?_) | (refine kL 1583 rfl ?_; first | refine A_lit rfl rfl 49 1 _ rfl ud49 inf82 (.cons rfl .nil) (els := [[_, _, _]]) rfl (by first | exact (rfl : _ = List.map tXg [⟨xa, xo, xn⟩]) | exact qN) rfl (Nat.ne_of_beq_eq_false rfl) (Nat.le_of_ble_eq_true rfl) (Nat.le_of_ble_eq_true rfl) (.push qL qN) ?_) | (refine kL 2563 rfl ?_; first | refine A_store_rp rfl rfl 80 _ _ rfl inf80 (by decide) rfl rfl (by first | exact map_get (by assumption) | assumption | exact map_get hx) rfl rfl rfl (Nat.le_of_ble_eq_true rfl) (by first | exact map_set (f := tXg) (x := ⟨xa, xo, xn⟩) | exact qN) qN ?_) | refine uA ?_)) | refine uR ?_ | refine uC ?_ | refine kcp rfl (fun hc => ?_) (fun hc => ?_) | refine kcn rfl (fun hc => ?_) (fun hc => ?_) | refine kcb rfl (fun hc => ?_) (fun hc => ?_) | refine kcc rfl (fun hc => ?_) (fun hc => ?_) | refine AW.drawU (id := 10) mixed 0 qR ?_ | fail)
    all_goals first | (exfalso; omega) | skip
    refine ⟨q + 1, ⟨by omega, hn⟩, by omega, ?_⟩
    rw [hc, List.length_append, mpX_app]
    exact Wk.cq 4
  ·have e : q = xs.length := by omega
   subst e
   unfold thA
   rw [h0, if_pos rfl, ← srX_kp]
   generalize thC xs xs.length = C at *
   have hCl : (C.map tXg).length = C.length := List.length_map _
   have cv : ∀ x : DXg, CV Try.prog (.fn (.func 55) [] []) [.agg ((tXg x).map .t)] (.t (.v (.bool (dxP x)))) [] := fun x => ⟨_, _, [], [], rfl, Try.func55, by kernel_rfl, by kernel_rfl, fun _ => .nil, fun _ => .nil, then1_c x⟩
   have cD := delX_c 55 cv (k := C.length) C (by omega)
   have hK := kpX_len C
   have cS := sortX_c (k := C.length) (E := 82) (kpX C) (kpX_nd hnd) (by omega)
   repeat' (first | ((with_reducible refine kAL ?_); (first | (refine kL 4111 rfl ?_; first | refine A_lit rfl rfl 128 2 _ rfl ud128 inf49 (.cons rfl (.cons rfl .nil)) (els := [[_], [_]]) rfl (by first | exact qN) rfl (Nat.ne_of_beq_eq_false rfl) (Nat.le_of_ble_eq_true rfl) (Nat.le_of_ble_eq_true rfl) (.push qL qN) ?_) | (refine kL 12 rfl ?_; first | refine A_append_nlsub rfl rfl _ _ 49 rfl ud49 inf82 rfl rfl rfl rfl (by (try simp only [List.length_map, List.length_append, List.length_cons, List.length_nil]); omega) qB qB List.map_drop.symm (.push qL qN) ?_) | (refine kL 1583 rfl ?_; first | refine A_lit rfl rfl 49 1 _ rfl ud49 inf82 (.cons rfl .nil) (els := [[_, _, _]]) rfl (by first | exact qN) rfl (Nat.ne_of_beq_eq_false rfl) (Nat.le_of_ble_eq_true rfl) (Nat.le_of_ble_eq_true rfl) (.push qL qN) ?_) | (refine kL 1738 rfl ?_; first | refine uI [3] (cD) ?_) | (refine kL 1802 rfl ?_; first | refine uI [3] (cS) ?_) | refine uA ?_)) | refine uR ?_ | refine uC ?_ | refine kcp rfl (fun hc => ?_) (fun hc => ?_) | refine kcn rfl (fun hc => ?_) (fun hc => ?_) | refine kcb rfl (fun hc => ?_) (fun hc => ?_) | refine kcc rfl (fun hc => ?_) (fun hc => ?_) | refine AW.drawU (id := 10) mixed 0 qR ?_ | fail)
   all_goals first | (exfalso; omega) | skip
   refine Fin.wk (Wk.freeze 3 rfl 4 rfl (.all (by rw [List.length_map, srX_len])) rfl) ?_
   (first | exact Fin.q Try.results21 (.cons (.tmp rfl) (.cons (.tmp rfl) .nil)) [] | refine Fin.q Try.results21 (.cons (.tmp rfl) (.cons (.tmp rfl) .nil)) [] (hr := (.tupL (.cons (.t ?_) (.cons (.t ?_) .nil)))) | refine Fin.mkv (rs := _) Try.results21 (.cons (.tmp rfl) (.cons (.tmp rfl) .nil)) [] (by decide) rfl ?_ ?_ ?_ <;> repeat' (skip; first | exact .nil | refine .cons rfl ?_ ?_ | refine .cons ?_ ?_ | refine .row ?_ | refine .rset ?_ | refine .box ?_ | exact .gone | refine .aggL ?_ | refine .tupL ?_ | refine .old rfl ?_ | refine .new rfl rfl rfl ?_ | exact .nl | exact .optr rfl | exact .nptr rfl rfl rfl | refine .t ?_ | exact .any _ | rfl))
end
section
end
section
attribute [local irreducible] AL AW RG Fin C Cd Cio thenQ blockQ retQ
set_option maxRecDepth 100000
end
section
attribute [local irreducible] AL AW RG Fin C Cd Cio thenQ blockQ retQ
set_option maxRecDepth 100000
theorem dOf_c (a b : List Int) (h : a.length = b.length) (ha : a.length ≤ 1048576) : Cd Try.prog 33 [.ln (a.map tU), .ln (b.map tU)] (.tup [.t (.lst ((ofQ a b a.length).map tXg)), i64 0]) [] := by
 have h1 : (a.map tU).length = a.length := List.length_map _
 have h2 : (b.map tU).length = b.length := List.length_map _
 have h0 : Cd Try.prog 33 [.ln (a.map tU), .ln (b.map tU)] (.tup [.sl 0 0 (ofQ a b a.length).length, i64 0]) [.row 0 82 3 ((ofQ a b a.length).map tXg)] := by
  refine Cd.enter' Try.func33 rfl Try.ntmps33 rfl ?_
  repeat' (first | ((with_reducible refine kAL ?_); (first | (refine kL 12 rfl ?_; first | refine A_append_nlsub rfl rfl _ _ 49 rfl ud49 inf82 rfl rfl rfl rfl (by (try simp only [List.length_map, List.length_append, List.length_cons, List.length_nil]); omega) qB qB List.map_drop.symm (.push qL qN) ?_) | (refine kL 1583 rfl ?_; first | refine A_lit rfl rfl 49 1 _ rfl ud49 inf82 (.cons rfl .nil) (els := [[_, _, _]]) rfl (by first | exact qN) rfl (Nat.ne_of_beq_eq_false rfl) (Nat.le_of_ble_eq_true rfl) (Nat.le_of_ble_eq_true rfl) (.push qL qN) ?_) | refine uA ?_)) | refine uC ?_ | refine kcp rfl (fun hc => ?_) (fun hc => ?_) | refine kcn rfl (fun hc => ?_) (fun hc => ?_) | refine kcb rfl (fun hc => ?_) (fun hc => ?_) | refine kcc rfl (fun hc => ?_) (fun hc => ?_) | fail)
  all_goals first | (exfalso; omega) | skip
  refine AW.wk (Wk.own 6 rfl 82 3 (.push rfl rfl)) ?_
  refine AW.loopP (fun (q : Nat) => q ≤ a.length) (fun (q : Nat) => (pu (pu (pu (pu (pu (fun _ => .any) 1 (.ln (b.map tU))) 6 (.sl 0 (ofQ a b q).length (ofQ a b q).length)) 14 (.ln (a.map tU))) 15 (i64 (a.map tU).length)) 16 (i64 q))) (fun (q : Nat) => [.row (ofQ a b q).length 82 3 ((ofQ a b q).map tXg)]) (fun (q : Nat) => a.length - q) (0) ?_ ?_ ?_
  ·exact Nat.zero_le _
  ·exact Wk.cq 1
  ·intro q hq
   by_cases hq2 : q < a.length
   ·obtain ⟨x, hx⟩ : ∃ x, a[q]? = some x := ⟨_, List.getElem?_eq_getElem hq2⟩
    obtain ⟨y, hy⟩ : ∃ y, b[q]? = some y := ⟨_, List.getElem?_eq_getElem (by omega)⟩
    have hL := ofQ_len a b q
    by_cases e : x = y
    ·subst e
     have hn := ofQ_no hx hy
     generalize ofQ a b q = Q at *
     repeat' (first | ((with_reducible refine kAL ?_); (first | (refine kL 12 rfl ?_; first | refine A_append_nlsub rfl rfl _ _ 49 rfl ud49 inf82 rfl rfl rfl rfl (by (try simp only [List.length_map, List.length_append, List.length_cons, List.length_nil]); omega) qB qB List.map_drop.symm (.push qL qN) ?_) | (refine kL 1583 rfl ?_; first | refine A_lit rfl rfl 49 1 _ rfl ud49 inf82 (.cons rfl .nil) (els := [[_, _, _]]) rfl (by first | exact qN) rfl (Nat.ne_of_beq_eq_false rfl) (Nat.le_of_ble_eq_true rfl) (Nat.le_of_ble_eq_true rfl) (.push qL qN) ?_) | refine uA ?_)) | refine uC ?_ | refine kcp rfl (fun hc => ?_) (fun hc => ?_) | refine kcn rfl (fun hc => ?_) (fun hc => ?_) | refine kcb rfl (fun hc => ?_) (fun hc => ?_) | refine kcc rfl (fun hc => ?_) (fun hc => ?_) | fail)
     all_goals first | (exfalso; omega) | skip
     refine ⟨q + 1, by omega, by omega, ?_⟩
     rw [hn]
     exact Wk.cq 1
    ·have hn := ofQ_yes hx hy e
     generalize ofQ a b q = Q at *
     have hL2 : (Q.map tXg).length = Q.length := List.length_map _
     repeat' (first | ((with_reducible refine kAL ?_); (first | (refine kL 12 rfl ?_; first | refine A_append rfl rfl _ _ 49 rfl ud49 inf82 rfl rfl rfl (by first | exact Nat.le_refl _ | (simp <;> fail) | (simp; omega)) (by first | exact .nl | exact .all rfl (by first | rfl | (simp <;> fail) | (simp; omega)) | exact .lst (by first | exact each_map (fun _ => rfl) | assumption | (simp <;> fail) | fail) | exact .ln (by first | exact each_map (fun _ => rfl) | assumption | (simp <;> fail) | fail) | exact .sl rfl (by first | exact Nat.le_refl _ | (simp <;> fail) | (simp; omega)) | exact .sub rfl (by first | exact Nat.le_refl _ | (simp <;> fail) | (simp; omega))) qB qB (by first | exact app_map (by first | rfl | omega | (simp <;> fail) | fail) | exact app_one (f := tXg) (x := ⟨_, _, _⟩) (by first | rfl | omega | (simp <;> fail) | fail) | exact qN) qN qS ?_ | refine A_append_nl rfl rfl _ _ 49 rfl ud49 inf82 rfl rfl (by first | exact .nl | exact .all rfl (by first | rfl | (simp <;> fail) | (simp; omega)) | exact .lst (by first | exact each_map (fun _ => rfl) | assumption | (simp <;> fail) | fail) | exact .ln (by first | exact each_map (fun _ => rfl) | assumption | (simp <;> fail) | fail) | exact .sl rfl (by first | exact Nat.le_refl _ | (simp <;> fail) | (simp; omega)) | exact .sub rfl (by first | exact Nat.le_refl _ | (simp <;> fail) | (simp; omega))) qB qB (by first | exact (rfl : _ = List.map tXg [⟨_, _, _⟩]) | exact qN) (.push qL qN) qS ?_ | refine A_append_nlsub rfl rfl _ _ 49 rfl ud49 inf82 rfl rfl rfl rfl (by (try simp only [List.length_map, List.length_append, List.length_cons, List.length_nil]); omega) qB qB List.map_drop.symm (.push qL qN) ?_) | (refine kL 1583 rfl ?_; first | refine A_lit rfl rfl 49 1 _ rfl ud49 inf82 (.cons rfl .nil) (els := [[_, _, _]]) rfl (by first | exact (rfl : _ = List.map tXg [⟨_, _, _⟩]) | exact qN) rfl (Nat.ne_of_beq_eq_false rfl) (Nat.le_of_ble_eq_true rfl) (Nat.le_of_ble_eq_true rfl) (.push qL qN) ?_) | refine uA ?_)) | refine uC ?_ | refine kcp rfl (fun hc => ?_) (fun hc => ?_) | refine kcn rfl (fun hc => ?_) (fun hc => ?_) | refine kcb rfl (fun hc => ?_) (fun hc => ?_) | refine kcc rfl (fun hc => ?_) (fun hc => ?_) | fail)
     all_goals first | (exfalso; omega) | skip
     refine ⟨q + 1, by omega, by omega, ?_⟩
     rw [hn, List.length_append]
     exact Wk.cq 1
   ·have e : q = a.length := by omega
    subst e
    generalize ofQ a b a.length = Q at *
    repeat' (first | ((with_reducible refine kAL ?_); (first | (refine kL 12 rfl ?_; first | refine A_append_nlsub rfl rfl _ _ 49 rfl ud49 inf82 rfl rfl rfl rfl (by (try simp only [List.length_map, List.length_append, List.length_cons, List.length_nil]); omega) qB qB List.map_drop.symm (.push qL qN) ?_) | (refine kL 1583 rfl ?_; first | refine A_lit rfl rfl 49 1 _ rfl ud49 inf82 (.cons rfl .nil) (els := [[_, _, _]]) rfl (by first | exact qN) rfl (Nat.ne_of_beq_eq_false rfl) (Nat.le_of_ble_eq_true rfl) (Nat.le_of_ble_eq_true rfl) (.push qL qN) ?_) | refine uA ?_)) | refine uC ?_ | refine kcp rfl (fun hc => ?_) (fun hc => ?_) | refine kcn rfl (fun hc => ?_) (fun hc => ?_) | refine kcb rfl (fun hc => ?_) (fun hc => ?_) | refine kcc rfl (fun hc => ?_) (fun hc => ?_) | fail)
    all_goals first | (exfalso; omega) | ((first | exact Fin.q Try.results33 (.cons (.tmp rfl) (.cons (.tmp rfl) .nil)) [0] | refine Fin.q Try.results33 (.cons (.tmp rfl) (.cons (.tmp rfl) .nil)) [0] (hr := (.tupL (.cons (.t ?_) (.cons (.t ?_) .nil)))) | refine Fin.mkv (rs := _) Try.results33 (.cons (.tmp rfl) (.cons (.tmp rfl) .nil)) [0] (by decide) rfl ?_ ?_ ?_ <;> repeat' (skip; first | exact .nil | refine .cons rfl ?_ ?_ | refine .cons ?_ ?_ | refine .row ?_ | refine .rset ?_ | refine .box ?_ | exact .gone | refine .aggL ?_ | refine .tupL ?_ | refine .old rfl ?_ | refine .new rfl rfl rfl ?_ | exact .nl | exact .optr rfl | exact .nptr rfl rfl rfl | refine .t ?_ | exact .any _ | rfl)))
 generalize ofQ a b a.length = Q at *
 have h0' := Cd.frz h0 0 rfl (by repeat' (first | exact FzL.nil | apply FzL.cons | exact FzR.nlt | exact FzR.all (by first | rfl | (simp <;> fail) | (simp; omega)) | exact FzR.sl (by first | exact Nat.le_refl _ | (simp <;> fail) | (simp; omega)) | apply FzR.aggL | exact FzR.same _)) rfl; exact Cd.drop h0' rfl
theorem dBack_c (l : List DXg) (hl : l.length ≤ 1048576) : Cd Try.prog 38 [.ln (l.map tXg)] (.t (.lst ((bkQ l 0).map tXg))) [] := by
 have h1 : (l.map tXg).length = l.length := List.length_map _
 have h0 : Cd Try.prog 38 [.ln (l.map tXg)] (.sl 0 0 (bkQ l 0).length) [.row 0 82 3 ((bkQ l 0).map tXg)] := by
  refine Cd.enter' Try.func38 rfl Try.ntmps38 rfl ?_
  repeat' (first | ((with_reducible refine kAL ?_); (first | (refine kL 12 rfl ?_; first | refine A_append_nlsub rfl rfl _ _ 49 rfl ud49 inf82 rfl rfl rfl rfl (by (try simp only [List.length_map, List.length_append, List.length_cons, List.length_nil]); omega) qB qB List.map_drop.symm (.push qL qN) ?_) | (refine kL 1583 rfl ?_; first | refine A_lit rfl rfl 49 1 _ rfl ud49 inf82 (.cons rfl .nil) (els := [[_, _, _]]) rfl (by first | exact qN) rfl (Nat.ne_of_beq_eq_false rfl) (Nat.le_of_ble_eq_true rfl) (Nat.le_of_ble_eq_true rfl) (.push qL qN) ?_) | refine uA ?_)) | refine uC ?_ | refine kcp rfl (fun hc => ?_) (fun hc => ?_) | refine kcn rfl (fun hc => ?_) (fun hc => ?_) | refine kcb rfl (fun hc => ?_) (fun hc => ?_) | refine kcc rfl (fun hc => ?_) (fun hc => ?_) | fail)
  all_goals first | (exfalso; omega) | skip
  rw [h1]
  refine AW.wk (Wk.own 3 rfl 82 3 (.push rfl rfl)) ?_
  refine AW.loopP (fun (q : Nat) => q ≤ l.length) (fun (q : Nat) => (pu (pu (pu (fun _ => .any) 0 (.ln (l.map tXg))) 3 (.sl 0 (bkQ l q).length (bkQ l q).length)) 4 (i64 ((q : Int) - 1)))) (fun (q : Nat) => [.row (bkQ l q).length 82 3 ((bkQ l q).map tXg)]) (fun (q : Nat) => q) (l.length) ?_ ?_ ?_
  ·exact Nat.le_refl _
  ·have e : bkQ l l.length = [] := by unfold bkQ; simp
   rw [e]
   exact Wk.cq 1
  ·intro q hq
   by_cases hq2 : 0 < q
   ·obtain ⟨q, rfl⟩ : ∃ p, q = p + 1 := ⟨q - 1, by omega⟩
    obtain ⟨x, hx⟩ : ∃ x, l[q]? = some x := ⟨_, List.getElem?_eq_getElem (by omega)⟩
    have hL := bkQ_len l (q + 1)
    have hn := bkQ_next hx
    generalize bkQ l (q + 1) = Q at *
    have hL2 : (Q.map tXg).length = Q.length := List.length_map _
    obtain ⟨x1, x2, x3⟩ := x
    dsimp only at hn
    have e0 : (((q + 1 : Nat) : Int) - 1) = (q : Int) := by omega
    rw [e0]
    repeat' (first | ((with_reducible refine kAL ?_); (first | (refine kL 12 rfl ?_; first | refine A_append rfl rfl _ _ 49 rfl ud49 inf82 rfl rfl rfl (by first | exact Nat.le_refl _ | (simp <;> fail) | (simp; omega)) (by first | exact .nl | exact .all rfl (by first | rfl | (simp <;> fail) | (simp; omega)) | exact .lst (by first | exact each_map (fun _ => rfl) | assumption | (simp <;> fail) | fail) | exact .ln (by first | exact each_map (fun _ => rfl) | assumption | (simp <;> fail) | fail) | exact .sl rfl (by first | exact Nat.le_refl _ | (simp <;> fail) | (simp; omega)) | exact .sub rfl (by first | exact Nat.le_refl _ | (simp <;> fail) | (simp; omega))) qB qB (by first | exact app_map (by first | rfl | omega | (simp <;> fail) | fail) | exact app_one (f := tXg) (x := ⟨_, _, _⟩) (by first | rfl | omega | (simp <;> fail) | fail) | exact qN) qN qS ?_ | refine A_append_nl rfl rfl _ _ 49 rfl ud49 inf82 rfl rfl (by first | exact .nl | exact .all rfl (by first | rfl | (simp <;> fail) | (simp; omega)) | exact .lst (by first | exact each_map (fun _ => rfl) | assumption | (simp <;> fail) | fail) | exact .ln (by first | exact each_map (fun _ => rfl) | assumption | (simp <;> fail) | fail) | exact .sl rfl (by first | exact Nat.le_refl _ | (simp <;> fail) | (simp; omega)) | exact .sub rfl (by first | exact Nat.le_refl _ | (simp <;> fail) | (simp; omega))) qB qB (by first | exact (rfl : _ = List.map tXg [⟨_, _, _⟩]) | exact qN) (.push qL qN) qS ?_ | refine A_append_nlsub rfl rfl _ _ 49 rfl ud49 inf82 rfl rfl rfl rfl (by (try simp only [List.length_map, List.length_append, List.length_cons, List.length_nil]); omega) qB qB List.map_drop.symm (.push qL qN) ?_) | (refine kL 2627 rfl ?_; first | refine A_store_rp rfl rfl 82 _ _ rfl inf82 (by decide) rfl rfl (by first | exact map_get (by assumption) | assumption | exact map_get hx) rfl rfl rfl (Nat.le_of_ble_eq_true rfl) (by first | exact map_set (f := tXg) (x := ⟨_, _, _⟩) | exact qN) qN ?_) | (refine kL 1583 rfl ?_; first | refine A_lit rfl rfl 49 1 _ rfl ud49 inf82 (.cons rfl .nil) (els := [[_, _, _]]) rfl (by first | exact (rfl : _ = List.map tXg [⟨_, _, _⟩]) | exact qN) rfl (Nat.ne_of_beq_eq_false rfl) (Nat.le_of_ble_eq_true rfl) (Nat.le_of_ble_eq_true rfl) (.push qL qN) ?_) | refine uA ?_)) | refine uC ?_ | refine kcp rfl (fun hc => ?_) (fun hc => ?_) | refine kcn rfl (fun hc => ?_) (fun hc => ?_) | refine kcb rfl (fun hc => ?_) (fun hc => ?_) | refine kcc rfl (fun hc => ?_) (fun hc => ?_) | fail)
    all_goals first | (exfalso; omega) | skip
    refine ⟨q, by omega, by omega, ?_⟩
    rw [hn, List.length_append]
    exact Wk.cq 1
   ·have e : q = 0 := by omega
    subst e
    generalize bkQ l 0 = Q at *
    repeat' (first | ((with_reducible refine kAL ?_); (first | (refine kL 12 rfl ?_; first | refine A_append_nlsub rfl rfl _ _ 49 rfl ud49 inf82 rfl rfl rfl rfl (by (try simp only [List.length_map, List.length_append, List.length_cons, List.length_nil]); omega) qB qB List.map_drop.symm (.push qL qN) ?_) | (refine kL 1583 rfl ?_; first | refine A_lit rfl rfl 49 1 _ rfl ud49 inf82 (.cons rfl .nil) (els := [[_, _, _]]) rfl (by first | exact qN) rfl (Nat.ne_of_beq_eq_false rfl) (Nat.le_of_ble_eq_true rfl) (Nat.le_of_ble_eq_true rfl) (.push qL qN) ?_) | refine uA ?_)) | refine uC ?_ | refine kcp rfl (fun hc => ?_) (fun hc => ?_) | refine kcn rfl (fun hc => ?_) (fun hc => ?_) | refine kcb rfl (fun hc => ?_) (fun hc => ?_) | refine kcc rfl (fun hc => ?_) (fun hc => ?_) | fail)
    all_goals first | (exfalso; omega) | ((first | exact Fin.q Try.results38 (.cons (.tmp rfl) .nil) [0] | refine Fin.q Try.results38 (.cons (.tmp rfl) .nil) [0] (hr := (.t ?_)) | refine Fin.mkv (rs := _) Try.results38 (.cons (.tmp rfl) .nil) [0] (by decide) rfl ?_ ?_ ?_ <;> repeat' (skip; first | exact .nil | refine .cons rfl ?_ ?_ | refine .cons ?_ ?_ | refine .row ?_ | refine .rset ?_ | refine .box ?_ | exact .gone | refine .aggL ?_ | refine .tupL ?_ | refine .old rfl ?_ | refine .new rfl rfl rfl ?_ | exact .nl | exact .optr rfl | exact .nptr rfl rfl rfl | refine .t ?_ | exact .any _ | rfl)))
 generalize bkQ l 0 = Q at *
 have h0' := Cd.frz1 h0 0 rfl (by repeat' (first | exact FzL.nil | apply FzL.cons | exact FzR.nlt | exact FzR.all (by first | rfl | (simp <;> fail) | (simp; omega)) | exact FzR.sl (by first | exact Nat.le_refl _ | (simp <;> fail) | (simp; omega)) | apply FzR.aggL | exact FzR.same _)) rfl; exact Cd.drop h0' rfl
end
section
attribute [local irreducible] AL AW RG Fin C Cd Cio thenQ blockQ retQ
set_option maxRecDepth 100000
end
section
abbrev u64 (x : Int) : AV := .t (.v (.int .u64 x))
abbrev aCf (c : DConf) : AV := .agg [i64 c.kind, i64 c.threads, i64 c.chans, i64 c.cap, i64 c.nodes, i64 c.retire, i64 c.patience, i64 c.tags, i64 c.seqs, i64 c.gens, .ln (c.start.map tI)]
end
section
attribute [local irreducible] AL AW RG Fin C Cd Cio thenQ blockQ retQ
set_option maxRecDepth 100000
def inI (n a b : Int) : Bool := decide (a ≤ n ∧ n ≤ b)
def ownC (c : DConf) : Bool :=
 if c.kind = 1 ∨ c.kind = 2 then inI c.cap 1 16 && decide (c.chans = 0) && decide (c.gens = 0) && decide (c.start = [])
 else if c.kind = 3 then inI c.chans 1 8 && inI c.cap 0 8 && inI c.gens 1 4095 && decide ((c.start.length : Int) ≤ c.chans) && !(c.start.any fun n => !inI n 0 c.cap)
 else false
def chkC (c : DConf) : Bool := inI c.threads 1 64 && inI c.nodes 1 64 && inI c.retire 1 32 && inI c.patience 0 4 && inI c.tags 1 4294967295 && inI c.seqs 1 1048575 && ownC c
theorem in_c (n a b : Int) : Cd Try.prog 120 [i64 n, i64 a, i64 b] (bo (inI n a b)) [] := by
 unfold inI
 by_cases h1 : a ≤ n <;> by_cases h2 : n ≤ b
 all_goals
  refine Cd.enter' Try.func120 rfl Try.ntmps120 rfl ?_
  repeat' (first | refine uA ?_ | refine uC ?_ | fail)
  all_goals first | (exfalso; omega) | (refine Fin.q Try.results120 (.cons (.tmp rfl) .nil) [] (hr := (.t ?_)))
  all_goals simp [h1, h2]
theorem inR_c (n a b : Int) : Cd Try.prog 106 [i64 n, i64 a, i64 b] (bo (inI n a b)) [] := by
 unfold inI
 by_cases h1 : a ≤ n <;> by_cases h2 : n ≤ b
 all_goals
  refine Cd.enter' Try.func106 rfl Try.ntmps106 rfl ?_
  repeat' (first | refine uA ?_ | refine uC ?_ | fail)
  all_goals first | (exfalso; omega) | (refine Fin.q Try.results106 (.cons (.tmp rfl) .nil) [] (hr := (.t ?_)))
  all_goals simp [h1, h2]
theorem own1_c (n : Int) (c : DConf) : Cd Try.prog 125 [i64 n, .lp [i64 c.kind, i64 c.threads, i64 c.chans, i64 c.cap, i64 c.nodes, i64 c.retire, i64 c.patience, i64 c.tags, i64 c.seqs, i64 c.gens, .ln (c.start.map tI)]] (bo (!inI n 0 c.cap)) [] := by
 have c1 := in_c n 0 c.cap
 generalize inI n 0 c.cap = b at c1
 cases b
 all_goals
  refine Cd.enter' Try.func125 rfl Try.ntmps125 rfl ?_
  repeat' (first | ((with_reducible refine kAL ?_); (first | (refine kL 3850 rfl ?_; first | refine uK (c1) ?_) | refine uA ?_)) | refine uC ?_ | fail)
  all_goals first | (exfalso; omega) | (exact Fin.q Try.results125 (.cons (.tmp rfl) .nil) [])
theorem own_c (c : DConf) (hs : c.start.length ≤ 1152921504606846976) : Cd Try.prog 121 [aCf c] (bo (ownC c)) [] := by
 have cF := conFI_c 125 [] [.lp [i64 c.kind, i64 c.threads, i64 c.chans, i64 c.cap, i64 c.nodes, i64 c.retire, i64 c.patience, i64 c.tags, i64 c.seqs, i64 c.gens, .ln (c.start.map tI)]] (fun n => !inI n 0 c.cap) c.start
  (fun n _ => ⟨_, _, [], [.lp [i64 c.kind, i64 c.threads, i64 c.chans, i64 c.cap, i64 c.nodes, i64 c.retire, i64 c.patience, i64 c.tags, i64 c.seqs, i64 c.gens, .ln (c.start.map tI)]], rfl, Try.func125, by kernel_rfl, by kernel_rfl, fun _ => .nil, fun _ => .cons (.lpL (by repeat (first | exact .nil | refine .cons ?_ ?_ | exact .t _ | exact .ln _))) .nil, own1_c n c⟩) rfl
  (fun _ _ => .fnL .nil (.cons (.lpL (by repeat (first | exact .nil | refine .cons ?_ ?_ | exact .t _ | exact .ln _))) .nil)) hs
 have h1 : (c.start.map tI).length = c.start.length := List.length_map _
 have c1 := in_c c.cap 1 16
 have c2 := in_c c.chans 1 8
 have c3 := in_c c.cap 0 8
 have c4 := in_c c.gens 1 4095
 unfold ownC
 generalize inI c.cap 1 16 = b1 at *
 generalize inI c.chans 1 8 = b2 at *
 generalize inI c.cap 0 8 = b3 at *
 generalize inI c.gens 1 4095 = b4 at *
 generalize (c.start.any fun n => !inI n 0 c.cap) = b5 at *
 have hst : c.start = [] ↔ c.start.length = 0 := List.length_eq_zero_iff.symm
 by_cases k : c.kind = 1 ∨ c.kind = 2
 ·rw [if_pos k]
  have cs : b1 = false ∨ (b1 = true ∧ c.chans ≠ 0) ∨ (b1 = true ∧ c.chans = 0 ∧ c.gens ≠ 0) ∨ (b1 = true ∧ c.chans = 0 ∧ c.gens = 0 ∧ c.start.length ≠ 0) ∨ (b1 = true ∧ c.chans = 0 ∧ c.gens = 0 ∧ c.start.length = 0) := by
   cases b1
   ·exact .inl rfl
   ·simp only [Bool.true_eq_false, true_and, false_or]; omega
  clear c2 c3 c4 cF
  rcases k with k | k
  all_goals
   rcases cs with rfl | ⟨rfl, e1⟩ | ⟨rfl, e1, e2⟩ | ⟨rfl, e1, e2, e3⟩ | ⟨rfl, e1, e2, e3⟩
   all_goals
    refine Cd.enter' Try.func121 rfl Try.ntmps121 rfl ?_
    repeat' (first | ((with_reducible refine kAL ?_); (first | (refine kL 3850 rfl ?_; first | refine uK (c1) ?_) | refine uA ?_)) | refine uC ?_ | fail)
    all_goals first | (exfalso; omega) | ((first | exact Fin.q Try.results121 (.cons (.tmp rfl) .nil) [] | refine Fin.q Try.results121 (.cons (.tmp rfl) .nil) [] (hr := (.t ?_))))
    all_goals first | (simp; done) | (simp [e1]; done) | (simp [e1, e2]; done) | (simp [e1, e2, hst, e3]; done) | skip
 ·rw [if_neg k]
  by_cases k3 : c.kind = 3
  ·rw [if_pos k3]
   have cs : b2 = false ∨ (b2 = true ∧ b3 = false) ∨ (b2 = true ∧ b3 = true ∧ b4 = false) ∨ (b2 = true ∧ b3 = true ∧ b4 = true ∧ ¬ (c.start.length : Int) ≤ c.chans) ∨ (b2 = true ∧ b3 = true ∧ b4 = true ∧ (c.start.length : Int) ≤ c.chans ∧ b5 = false) ∨ (b2 = true ∧ b3 = true ∧ b4 = true ∧ (c.start.length : Int) ≤ c.chans ∧ b5 = true) := by
    by_cases e : (c.start.length : Int) ≤ c.chans <;> cases b2 <;> cases b3 <;> cases b4 <;> cases b5 <;> simp [e]
   rcases cs with rfl | ⟨rfl, rfl⟩ | ⟨rfl, rfl, rfl⟩ | ⟨rfl, rfl, rfl, e1⟩ | ⟨rfl, rfl, rfl, e1, rfl⟩ | ⟨rfl, rfl, rfl, e1, rfl⟩
   all_goals
    refine Cd.enter' Try.func121 rfl Try.ntmps121 rfl ?_
    repeat' (first | ((with_reducible refine kAL ?_); (first | (refine kL 3850 rfl ?_; first | refine uK (c2) ?_ | refine uK (c3) ?_ | refine uK (c4) ?_) | (refine kL 3978 rfl ?_; first | refine uK (cF) ?_) | refine uA ?_)) | refine uC ?_ | fail)
    all_goals first | (exfalso; omega) | ((first | exact Fin.q Try.results121 (.cons (.tmp rfl) .nil) [] | refine Fin.q Try.results121 (.cons (.tmp rfl) .nil) [] (hr := (.t ?_))))
    all_goals first | (simp [e1]; done) | (simp; done) | skip
  ·rw [if_neg k3]
   refine Cd.enter' Try.func121 rfl Try.ntmps121 rfl ?_
   repeat' (first | refine uA ?_ | refine uC ?_ | fail)
   all_goals first | (exfalso; omega) | (exact Fin.q Try.results121 (.cons (.tmp rfl) .nil) [])
theorem check_c (c : DConf) (hs : c.start.length ≤ 1152921504606846976) : Cd Try.prog 107 [aCf c] (i64 (if chkC c then 0 else 1)) [] := by
 have c1 := in_c c.threads 1 64
 have c2 := in_c c.nodes 1 64
 have c3 := in_c c.retire 1 32
 have c4 := in_c c.patience 0 4
 have c5 := in_c c.tags 1 4294967295
 have c6 := in_c c.seqs 1 1048575
 have c7 := own_c c hs
 unfold chkC
 generalize inI c.threads 1 64 = b1 at *
 generalize inI c.nodes 1 64 = b2 at *
 generalize inI c.retire 1 32 = b3 at *
 generalize inI c.patience 0 4 = b4 at *
 generalize inI c.tags 1 4294967295 = b5 at *
 generalize inI c.seqs 1 1048575 = b6 at *
 generalize ownC c = b7 at *
 have cs : b1 = false ∨ (b1 = true ∧ b2 = false) ∨ (b1 = true ∧ b2 = true ∧ b3 = false) ∨ (b1 = true ∧ b2 = true ∧ b3 = true ∧ b4 = false) ∨ (b1 = true ∧ b2 = true ∧ b3 = true ∧ b4 = true ∧ b5 = false) ∨ (b1 = true ∧ b2 = true ∧ b3 = true ∧ b4 = true ∧ b5 = true ∧ b6 = false) ∨ (b1 = true ∧ b2 = true ∧ b3 = true ∧ b4 = true ∧ b5 = true ∧ b6 = true ∧ b7 = false) ∨ (b1 = true ∧ b2 = true ∧ b3 = true ∧ b4 = true ∧ b5 = true ∧ b6 = true ∧ b7 = true) := by
  cases b1 <;> cases b2 <;> cases b3 <;> cases b4 <;> cases b5 <;> cases b6 <;> cases b7 <;> simp
 rcases cs with rfl | ⟨rfl, rfl⟩ | ⟨rfl, rfl, rfl⟩ | ⟨rfl, rfl, rfl, rfl⟩ | ⟨rfl, rfl, rfl, rfl, rfl⟩ | ⟨rfl, rfl, rfl, rfl, rfl, rfl⟩ | ⟨rfl, rfl, rfl, rfl, rfl, rfl, rfl⟩ | ⟨rfl, rfl, rfl, rfl, rfl, rfl, rfl⟩
 all_goals
  refine Cd.enter' Try.func107 rfl Try.ntmps107 rfl ?_
  repeat' (first | ((with_reducible refine kAL ?_); (first | (refine kL 3850 rfl ?_; first | refine uK (c1) ?_ | refine uK (c2) ?_ | refine uK (c3) ?_ | refine uK (c4) ?_ | refine uK (c5) ?_ | refine uK (c6) ?_) | (refine kL 3882 rfl ?_; first | refine uK (c7) ?_) | refine uA ?_)) | refine uC ?_ | fail)
  all_goals first | (exfalso; omega) | (exact Bool.noConfusion hc) | (exact Fin.q Try.results107 (.cons (.tmp rfl) .nil) [])
  all_goals first | (simp; done) | skip
end
section
attribute [local irreducible] AL AW RG Fin C Cd Cio thenQ blockQ retQ
set_option maxRecDepth 100000
theorem ints_c (a b : List Int) (ha : a.length ≤ 1152921504606846976) : Cd Try.prog 14 [.ln (a.map tI), .ln (b.map tI)] (.t (.v (.bool (decide (a = b))))) [] := by
 have h1 : (a.map tI).length = a.length := List.length_map _
 have h2 : (b.map tI).length = b.length := List.length_map _
 refine Cd.enter' Try.func14 rfl Try.ntmps14 rfl ?_
 repeat' (first | refine uA ?_ | refine uC ?_ | refine kcp rfl (fun hc => ?_) (fun hc => ?_) | fail)
 ·refine Fin.q Try.results14 (.cons (.tmp rfl) .nil) [] (hr := (.t ?_))
  have : a ≠ b := by rintro rfl; exact hc rfl
  simp [this]
 ·refine AW.loopP (fun (i : Nat) => ∀ j, j < i → a.getD j 0 = b.getD j 0) (fun (i : Nat) => (pu (pu (pu (pu (pu (fun _ => .any) 0 (.ln (a.map tI))) 1 (.ln (b.map tI))) 4 (.t (.v (.bool false)))) 12 (i64 (a.map tI).length)) 13 (i64 i))) (fun (i : Nat) => []) (fun (i : Nat) => a.length + 1 - i) (0) ?_ ?_ ?_
  ·intro j hj; omega
  ·exact Wk.cq 0
  ·intro i hi
   repeat' (first | refine uA ?_ | refine uR ?_ | refine uC ?_ | refine kcp rfl (fun hc => ?_) (fun hc => ?_) | refine AW.drawU (id := 6) mixed 0 qR ?_ | fail)
   ·refine Fin.q Try.results14 (.cons (.tmp rfl) .nil) [] (hr := (.t ?_))
    have : a ≠ b := by rintro rfl; exact hc rfl
    simp [this]
   ·refine ⟨i + 1, fun j hj => ?_, by omega, ?_⟩
    ·by_cases e : j = i
     ·subst e; exact Decidable.not_not.1 hc
     ·exact hi j (by omega)
    ·exact Wk.cq 0
   ·refine Fin.q Try.results14 (.cons (.tmp rfl) .nil) [] (hr := (.t ?_))
    have : a = b := all_eq (z := 0) (by omega) fun j hj => hi j (by omega)
    simp [this]
end
section
end
end Go.Proofs.Ytnibnbcmnaflmaa
