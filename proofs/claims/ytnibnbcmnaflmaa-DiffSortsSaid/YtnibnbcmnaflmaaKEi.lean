/- Joined: XTDiffD, XTSortX, XTLay39. -/
import Derived.Test.YtnibnbcmnaflmaaKEh
import Derived.Test.YtnibnbcmnaflmaaKEd
import Derived.Test.YtnibnbcmnaflmaaKEc
import Derived.Sort.Grow
import Derived.Shelf.SlSortCmp.WholeK
import Derived.Shelf.SlSortCmp.NoneTotal
import Derived.Shelf.RegionOpenPlain
namespace Go.Proofs.Ytnibnbcmnaflmaa
open Go.RowKit
set_option linter.unusedVariables false
set_option linter.unusedSimpArgs false
set_option linter.unnecessarySimpa false
set_option maxRecDepth 100000
set_option maxHeartbeats 64000000
section
attribute [local irreducible] AL AW RG Fin C Cd Cio thenQ blockQ retQ
set_option maxRecDepth 100000
theorem growX_c (n : Nat) (hn : n ≤ 4194304) : Cd Try.prog 74 [.nl, i64 n] (.sl 0 0 0) [.row 0 82 3 []] := by
 refine Cd.enter' Try.func74 rfl Try.ntmps74 rfl ?_
 by_cases h0 : 0 < n
 ·repeat' (first | ((with_reducible refine kAL ?_); (first | refine A_cap_nl rfl rfl rfl Ud.h rfl ?_ | refine A_cut_nl rfl rfl rfl Ud.h In.h rfl (.no 0) (.yes rfl (Int.le_refl 0) rfl) ?_ | refine A_append_z rfl rfl rfl Ud.h Ud.h ⟨_, _, In.h, rfl, rfl, rfl⟩ rfl (by decide) rfl rfl n (by omega) (by omega) (by simp only [maxLen]; omega) (by omega) rfl (.push rfl rfl) ?_ | refine uA ?_)) | refine uC ?_ | refine uA ?_ | refine uC ?_ | fail | fail)
  all_goals first | (exfalso; omega) | skip
  refine Fin.wk (Wk.shrink 0 0 rfl (Nat.zero_le _) rfl) ?_
  (first | exact Fin.q Try.results74 (.cons (.tmp rfl) .nil) [0] | refine Fin.q Try.results74 (.cons (.tmp rfl) .nil) [0] (hr := (.t ?_)) | refine Fin.mkv (rs := _) Try.results74 (.cons (.tmp rfl) .nil) [0] (by decide) rfl ?_ ?_ ?_ <;> repeat' (skip; first | exact .nil | refine .cons rfl ?_ ?_ | refine .cons ?_ ?_ | refine .row ?_ | refine .rset ?_ | refine .box ?_ | exact .gone | refine .aggL ?_ | refine .tupL ?_ | refine .old rfl ?_ | refine .new rfl rfl rfl ?_ | exact .nl | exact .optr rfl | exact .nptr rfl rfl rfl | refine .t ?_ | exact .any _ | rfl))
 ·obtain rfl : n = 0 := by omega
  repeat' (first | ((with_reducible refine kAL ?_); (first | refine A_cap_nl rfl rfl rfl Ud.h rfl ?_ | refine uA ?_)) | refine uC ?_ | refine uA ?_ | refine uC ?_ | fail | fail)
  all_goals first | (exfalso; omega) | skip
  refine Fin.wk (Wk.own 4 rfl 82 3 (.push rfl rfl)) ?_
  (first | exact Fin.q Try.results74 (.cons (.tmp rfl) .nil) [0] | refine Fin.q Try.results74 (.cons (.tmp rfl) .nil) [0] (hr := (.t ?_)) | refine Fin.mkv (rs := _) Try.results74 (.cons (.tmp rfl) .nil) [0] (by decide) rfl ?_ ?_ ?_ <;> repeat' (skip; first | exact .nil | refine .cons rfl ?_ ?_ | refine .cons ?_ ?_ | refine .row ?_ | refine .rset ?_ | refine .box ?_ | exact .gone | refine .aggL ?_ | refine .tupL ?_ | refine .old rfl ?_ | refine .new rfl rfl rfl ?_ | exact .nl | exact .optr rfl | exact .nptr rfl rfl rfl | refine .t ?_ | exact .any _ | rfl))
def szQ (a b : List DXg) : Nat → Int
 | 0 => 0
 | 1 => a.length
 | _ => a.length + b.length
def cQ (a b : List DXg) : Nat → List DXg
 | 0 => []
 | 1 => a
 | _ => a ++ b
theorem concatX_c (a b : List DXg) (ha : a.length ≤ 1048576) (hb : b.length ≤ 1048576) : Cd Try.prog 53 [.ln [[.lst (a.map tXg)], [.lst (b.map tXg)]]] (.sl 0 0 (a ++ b).length) [.row 0 82 3 ((a ++ b).map tXg)] := by
 have h1 : (a.map tXg).length = a.length := List.length_map _
 have h2 : (b.map tXg).length = b.length := List.length_map _
 have hl : (a ++ b).length = a.length + b.length := List.length_append
 have cG := growX_c (a.length + b.length) (by omega)
 refine Cd.enter' Try.func53 rfl Try.ntmps53 rfl ?_
 repeat' (first | ((with_reducible refine kAL ?_); (first | (refine kL 12 rfl ?_; first | refine A_append_nlsub rfl rfl _ _ 49 rfl ud49 inf82 rfl rfl rfl rfl (by (try simp only [List.length_map, List.length_append, List.length_cons, List.length_nil]); omega) qB qB List.map_drop.symm (.push qL qN) ?_) | refine uA ?_)) | refine uC ?_ | refine kcp rfl (fun hc => ?_) (fun hc => ?_) | refine kcn rfl (fun hc => ?_) (fun hc => ?_) | refine kcb rfl (fun hc => ?_) (fun hc => ?_) | refine kcc rfl (fun hc => ?_) (fun hc => ?_) | fail)
 all_goals first | (exfalso; omega) | skip
 refine AW.loopP (fun (q : Nat) => q ≤ 2) (fun (q : Nat) => (pu (pu (pu (pu (pu (fun _ => .any) 0 (.ln [[.lst (a.map tXg)], [.lst (b.map tXg)]])) 3 (i64 (szQ a b q))) 9 (.ln [[.lst (a.map tXg)], [.lst (b.map tXg)]])) 10 (i64 2)) 11 (i64 q))) (fun (q : Nat) => []) (fun (q : Nat) => 2 - q) (0) ?_ ?_ ?_
 ·exact Nat.zero_le _
 ·exact Wk.cq 0
 ·intro q hq
  rcases (show q = 0 ∨ q = 1 ∨ q = 2 by omega) with rfl | rfl | rfl
  ·have e0 : szQ a b 0 = 0 := rfl
   rw [e0]
   repeat' (first | ((with_reducible refine kAL ?_); (first | (refine kL 12 rfl ?_; first | refine A_append_nlsub rfl rfl _ _ 49 rfl ud49 inf82 rfl rfl rfl rfl (by (try simp only [List.length_map, List.length_append, List.length_cons, List.length_nil]); omega) qB qB List.map_drop.symm (.push qL qN) ?_) | refine uA ?_)) | refine uC ?_ | refine kcp rfl (fun hc => ?_) (fun hc => ?_) | refine kcn rfl (fun hc => ?_) (fun hc => ?_) | refine kcb rfl (fun hc => ?_) (fun hc => ?_) | refine kcc rfl (fun hc => ?_) (fun hc => ?_) | fail)
   all_goals first | (exfalso; omega) | skip
   refine ⟨1, by omega, by omega, ?_⟩
   rw [show szQ a b 1 = 0 + (a.map tXg).length by unfold szQ; rw [h1]; simp]
   exact Wk.cq 0
  ·have e0 : szQ a b 1 = a.length := rfl
   rw [e0]
   repeat' (first | ((with_reducible refine kAL ?_); (first | (refine kL 12 rfl ?_; first | refine A_append_nlsub rfl rfl _ _ 49 rfl ud49 inf82 rfl rfl rfl rfl (by (try simp only [List.length_map, List.length_append, List.length_cons, List.length_nil]); omega) qB qB List.map_drop.symm (.push qL qN) ?_) | refine uA ?_)) | refine uC ?_ | refine kcp rfl (fun hc => ?_) (fun hc => ?_) | refine kcn rfl (fun hc => ?_) (fun hc => ?_) | refine kcb rfl (fun hc => ?_) (fun hc => ?_) | refine kcc rfl (fun hc => ?_) (fun hc => ?_) | fail)
   all_goals first | (exfalso; omega) | skip
   refine ⟨2, by omega, by omega, ?_⟩
   rw [show szQ a b 2 = a.length + (b.map tXg).length by rw [h2]; rfl]
   exact Wk.cq 0
  ·have e0 : szQ a b 2 = ((a.length + b.length : Nat) : Int) := by unfold szQ; simp
   rw [e0]
   repeat' (first | ((with_reducible refine kAL ?_); (first | (refine kL 12 rfl ?_; first | refine A_append_nlsub rfl rfl _ _ 49 rfl ud49 inf82 rfl rfl rfl rfl (by (try simp only [List.length_map, List.length_append, List.length_cons, List.length_nil]); omega) qB qB List.map_drop.symm (.push qL qN) ?_) | (refine kL 2378 rfl ?_; first | refine uK (cG) ?_) | refine uA ?_)) | refine uC ?_ | refine kcp rfl (fun hc => ?_) (fun hc => ?_) | refine kcn rfl (fun hc => ?_) (fun hc => ?_) | refine kcb rfl (fun hc => ?_) (fun hc => ?_) | refine kcc rfl (fun hc => ?_) (fun hc => ?_) | fail)
   all_goals first | (exfalso; omega) | skip
   refine AW.loopP (fun (q : Nat) => q ≤ 2) (fun (q : Nat) => (pu (pu (pu (pu (fun _ => .any) 6 (.sl 0 q (cQ a b q).length)) 25 (.ln [[.lst (a.map tXg)], [.lst (b.map tXg)]])) 26 (i64 2)) 27 (i64 q))) (fun (q : Nat) => [.row q 82 3 ((cQ a b q).map tXg)]) (fun (q : Nat) => 2 - q) (0) ?_ ?_ ?_
   ·exact Nat.zero_le _
   ·exact Wk.cq 1
   ·intro q hq
    rcases (show q = 0 ∨ q = 1 ∨ q = 2 by omega) with rfl | rfl | rfl
    ·rw [show cQ a b 0 = [] from rfl]
     repeat' (first | ((with_reducible refine kAL ?_); (first | (refine kL 12 rfl ?_; first | refine A_append_nlsub rfl rfl _ _ 49 rfl ud49 inf82 rfl rfl rfl rfl (by (try simp only [List.length_map, List.length_append, List.length_cons, List.length_nil]); omega) qB qB List.map_drop.symm (.push qL qN) ?_) | refine uA ?_)) | refine uC ?_ | refine kcp rfl (fun hc => ?_) (fun hc => ?_) | refine kcn rfl (fun hc => ?_) (fun hc => ?_) | refine kcb rfl (fun hc => ?_) (fun hc => ?_) | refine kcc rfl (fun hc => ?_) (fun hc => ?_) | fail)
     all_goals first | (exfalso; omega) | skip
     refine ⟨1, by omega, by omega, ?_⟩
     rw [show cQ a b 1 = a from rfl]
     exact Wk.cq 1
    ·rw [show cQ a b 1 = a from rfl]
     repeat' (first | ((with_reducible refine kAL ?_); (first | (refine kL 12 rfl ?_; first | refine A_append_nlsub rfl rfl _ _ 49 rfl ud49 inf82 rfl rfl rfl rfl (by (try simp only [List.length_map, List.length_append, List.length_cons, List.length_nil]); omega) qB qB List.map_drop.symm (.push qL qN) ?_) | refine uA ?_)) | refine uC ?_ | refine kcp rfl (fun hc => ?_) (fun hc => ?_) | refine kcn rfl (fun hc => ?_) (fun hc => ?_) | refine kcb rfl (fun hc => ?_) (fun hc => ?_) | refine kcc rfl (fun hc => ?_) (fun hc => ?_) | fail)
     all_goals first | (exfalso; omega) | skip
     refine ⟨2, by omega, by omega, ?_⟩
     rw [show cQ a b 2 = a ++ b from rfl, List.length_append]
     exact Wk.cq 1
    ·rw [show cQ a b 2 = a ++ b from rfl]
     repeat' (first | ((with_reducible refine kAL ?_); (first | (refine kL 12 rfl ?_; first | refine A_append_nlsub rfl rfl _ _ 49 rfl ud49 inf82 rfl rfl rfl rfl (by (try simp only [List.length_map, List.length_append, List.length_cons, List.length_nil]); omega) qB qB List.map_drop.symm (.push qL qN) ?_) | refine uA ?_)) | refine uC ?_ | refine kcp rfl (fun hc => ?_) (fun hc => ?_) | refine kcn rfl (fun hc => ?_) (fun hc => ?_) | refine kcb rfl (fun hc => ?_) (fun hc => ?_) | refine kcc rfl (fun hc => ?_) (fun hc => ?_) | fail)
     all_goals first | (exfalso; omega) | ((first | exact Fin.q Try.results53 (.cons (.tmp rfl) .nil) [0] | refine Fin.q Try.results53 (.cons (.tmp rfl) .nil) [0] (hr := (.t ?_)) | refine Fin.mkv (rs := _) Try.results53 (.cons (.tmp rfl) .nil) [0] (by decide) rfl ?_ ?_ ?_ <;> repeat' (skip; first | exact .nil | refine .cons rfl ?_ ?_ | refine .cons ?_ ?_ | refine .row ?_ | refine .rset ?_ | refine .box ?_ | exact .gone | refine .aggL ?_ | refine .tupL ?_ | refine .old rfl ?_ | refine .new rfl rfl rfl ?_ | exact .nl | exact .optr rfl | exact .nptr rfl rfl rfl | refine .t ?_ | exact .any _ | rfl)))
theorem then1_c (x : DXg) : Cd Try.prog 55 [.agg ((tXg x).map .t)] (bo (decide (x.old = x.now))) [] := by
 obtain ⟨xa, xo, xn⟩ := x
 by_cases h : xo = xn
 ·rw [decide_eq_true h]
  refine Cd.enter' Try.func55 rfl Try.ntmps55 rfl ?_
  repeat' (first | refine uA ?_ | refine uC ?_ | refine kcp rfl (fun hc => ?_) (fun hc => ?_) | refine kcn rfl (fun hc => ?_) (fun hc => ?_) | refine kcb rfl (fun hc => ?_) (fun hc => ?_) | refine kcc rfl (fun hc => ?_) (fun hc => ?_) | fail)
  all_goals first | (exfalso; omega) | ((first | exact Fin.q Try.results55 (.cons (.tmp rfl) .nil) [] | refine Fin.q Try.results55 (.cons (.tmp rfl) .nil) [] (hr := (.t ?_)) | refine Fin.mkv (rs := _) Try.results55 (.cons (.tmp rfl) .nil) [] (by decide) rfl ?_ ?_ ?_ <;> repeat' (skip; first | exact .nil | refine .cons rfl ?_ ?_ | refine .cons ?_ ?_ | refine .row ?_ | refine .rset ?_ | refine .box ?_ | exact .gone | refine .aggL ?_ | refine .tupL ?_ | refine .old rfl ?_ | refine .new rfl rfl rfl ?_ | exact .nl | exact .optr rfl | exact .nptr rfl rfl rfl | refine .t ?_ | exact .any _ | rfl)))
 ·rw [decide_eq_false h]
  refine Cd.enter' Try.func55 rfl Try.ntmps55 rfl ?_
  repeat' (first | refine uA ?_ | refine uC ?_ | refine kcp rfl (fun hc => ?_) (fun hc => ?_) | refine kcn rfl (fun hc => ?_) (fun hc => ?_) | refine kcb rfl (fun hc => ?_) (fun hc => ?_) | refine kcc rfl (fun hc => ?_) (fun hc => ?_) | fail)
  all_goals first | (exfalso; omega) | ((first | exact Fin.q Try.results55 (.cons (.tmp rfl) .nil) [] | refine Fin.q Try.results55 (.cons (.tmp rfl) .nil) [] (hr := (.t ?_)) | refine Fin.mkv (rs := _) Try.results55 (.cons (.tmp rfl) .nil) [] (by decide) rfl ?_ ?_ ?_ <;> repeat' (skip; first | exact .nil | refine .cons rfl ?_ ?_ | refine .cons ?_ ?_ | refine .row ?_ | refine .rset ?_ | refine .box ?_ | exact .gone | refine .aggL ?_ | refine .tupL ?_ | refine .old rfl ?_ | refine .new rfl rfl rfl ?_ | exact .nl | exact .optr rfl | exact .nptr rfl rfl rfl | refine .t ?_ | exact .any _ | rfl)))
theorem idxFX_c (f : FuncId) (fi cap : List AV) (p : DXg → Bool) (l : List DXg) (hg : ∀ c ∈ l, CV Try.prog (.fn (.func f) fi cap) [.agg ((tXg c).map .t)] (.t (.v (.bool (p c)))) []) (hup : upB (keepG 0) (.fn (.func f) fi cap) = .fn (.func f) fi cap)
  (hl : l.length ≤ 1152921504606846976) : Cd Try.prog 75 [.ln (l.map tXg), .fn (.func f) fi cap] (i64 (ixF p l)) [] := by
 have h1 : (l.map tXg).length = l.length := List.length_map _
 refine Cd.enter' Try.func75 rfl Try.ntmps75 rfl ?_
 repeat' (first | refine uA ?_ | refine uC ?_ | refine kcp rfl (fun hc => ?_) (fun hc => ?_) | refine kcn rfl (fun hc => ?_) (fun hc => ?_) | refine kcb rfl (fun hc => ?_) (fun hc => ?_) | refine kcc rfl (fun hc => ?_) (fun hc => ?_) | fail)
 refine AW.loopP (fun (q : Nat) => q ≤ l.length ∧ ∀ j, j < q → ∀ b, l[j]? = some b → p b = false) (fun (q : Nat) => (pu (pu (pu (pu (fun _ => .any) 0 (.ln (l.map tXg))) 1 (.fn (.func f) fi cap)) 7 (i64 (l.map tXg).length)) 8 (i64 q))) (fun (q : Nat) => []) (fun (q : Nat) => l.length - q) (0) ?_ ?_ ?_
 ·exact ⟨Nat.zero_le _, fun j hj => by omega⟩
 ·exact Wk.cq 0
 ·rintro q ⟨h2, h3⟩
  by_cases hq : q < l.length
  ·obtain ⟨a, ha⟩ : ∃ a, l[q]? = some a := ⟨_, List.getElem?_eq_getElem hq⟩
   have c1 := hg a (List.mem_of_getElem? ha)
   cases hp : p a
   ·rw [hp] at c1
    repeat' (first | ((with_reducible refine kAL ?_); (first | (refine kL 11 rfl ?_; first | refine uV (c1) ?_) | refine uA ?_)) | refine uC ?_ | refine kcp rfl (fun hc => ?_) (fun hc => ?_) | refine kcn rfl (fun hc => ?_) (fun hc => ?_) | refine kcb rfl (fun hc => ?_) (fun hc => ?_) | refine kcc rfl (fun hc => ?_) (fun hc => ?_) | fail)
    all_goals first | (exfalso; omega) | skip
    refine ⟨q + 1, ⟨by omega, fun j hj b hb => ?_⟩, by omega, ?_⟩
    ·by_cases e : j = q
     ·subst e; rw [ha] at hb; cases hb; exact hp
     ·exact h3 j (by omega) b hb
    ·exact Wk.cq 0
   ·rw [hp] at c1
    rw [ixF_at p l q a h3 ha hp]
    repeat' (first | ((with_reducible refine kAL ?_); (first | (refine kL 11 rfl ?_; first | refine uV (c1) ?_) | refine uA ?_)) | refine uC ?_ | refine kcp rfl (fun hc => ?_) (fun hc => ?_) | refine kcn rfl (fun hc => ?_) (fun hc => ?_) | refine kcb rfl (fun hc => ?_) (fun hc => ?_) | refine kcc rfl (fun hc => ?_) (fun hc => ?_) | fail)
    all_goals first | (exfalso; omega) | ((first | exact Fin.q Try.results75 (.cons (.tmp rfl) .nil) [] | refine Fin.q Try.results75 (.cons (.tmp rfl) .nil) [] (hr := (.t ?_)) | refine Fin.mkv (rs := _) Try.results75 (.cons (.tmp rfl) .nil) [] (by decide) rfl ?_ ?_ ?_ <;> repeat' (skip; first | exact .nil | refine .cons rfl ?_ ?_ | refine .cons ?_ ?_ | refine .row ?_ | refine .rset ?_ | refine .box ?_ | exact .gone | refine .aggL ?_ | refine .tupL ?_ | refine .old rfl ?_ | refine .new rfl rfl rfl ?_ | exact .nl | exact .optr rfl | exact .nptr rfl rfl rfl | refine .t ?_ | exact .any _ | rfl)))
  ·rw [ixF_none p l fun j b hb => h3 j (by have := get_lt hb; omega) b hb]
   repeat' (first | refine uA ?_ | refine uC ?_ | refine kcp rfl (fun hc => ?_) (fun hc => ?_) | refine kcn rfl (fun hc => ?_) (fun hc => ?_) | refine kcb rfl (fun hc => ?_) (fun hc => ?_) | refine kcc rfl (fun hc => ?_) (fun hc => ?_) | fail)
   all_goals first | (exfalso; omega) | ((first | exact Fin.q Try.results75 (.cons (.tmp rfl) .nil) [] | refine Fin.q Try.results75 (.cons (.tmp rfl) .nil) [] (hr := (.t ?_)) | refine Fin.mkv (rs := _) Try.results75 (.cons (.tmp rfl) .nil) [] (by decide) rfl ?_ ?_ ?_ <;> repeat' (skip; first | exact .nil | refine .cons rfl ?_ ?_ | refine .cons ?_ ?_ | refine .row ?_ | refine .rset ?_ | refine .box ?_ | exact .gone | refine .aggL ?_ | refine .tupL ?_ | refine .old rfl ?_ | refine .new rfl rfl rfl ?_ | exact .nl | exact .optr rfl | exact .nptr rfl rfl rfl | refine .t ?_ | exact .any _ | rfl)))
theorem ixF_first {α : Type} (p : α → Bool) : ∀ (l : List α) (q : Nat), (q : Int) < ixF p l → ∀ b : α, l[q]? = some b → p b = false
 | [], q, _, b, hb => by simp at hb
 | a :: l, q, h, b, hb => by
  unfold ixF at h
  cases hp : p a
  ·rw [hp, if_neg (by decide)] at h
   split at h
   ·omega
   ·cases q with
    | zero => simp at hb; subst hb; exact hp
    | succ q => exact ixF_first p l q (by omega) b (by simpa using hb)
  ·rw [hp, if_pos rfl] at h; omega
theorem kpI {l : List DXg} (h : ∀ x ∈ l, x.old ≠ x.now) : kpX l = l := List.filter_eq_self.2 fun x hx => by simp [h x hx]
abbrev dxP (x : DXg) : Bool := decide (x.old = x.now)
theorem kpX_next {l : List DXg} {q : Nat} {x : DXg} (h : l[q]? = some x) : kpX (l.take (q + 1)) = if x.old = x.now then kpX (l.take q) else kpX (l.take q) ++ [x] := by
 unfold kpX
 rw [List.take_add_one, h, List.filter_append]
 by_cases e : x.old = x.now <;> simp [e]
theorem kpX_len (l : List DXg) : (kpX l).length ≤ l.length := List.length_filter_le _ _
theorem delX_c (f : FuncId) (cv : ∀ x : DXg, CV Try.prog (.fn (.func f) [] []) [.agg ((tXg x).map .t)] (.t (.v (.bool (dxP x)))) []) {k : Nat} (l : List DXg) (hl : l.length ≤ 4194304) : Cio Try.prog 54 [.sl 0 k l.length, .fn (.func f) [] []] [.row k 82 3 (l.map tXg)] (.sl 0 k (kpX l).length) [.row k 82 3 ((kpX l).map tXg)] := by
 have h1 : (l.map tXg).length = l.length := List.length_map _
 have cI := idxFX_c f [] [] dxP l (fun x _ => cv x) rfl (by omega)
 refine Cio.enter' Try.func54 rfl Try.ntmps54 rfl qM ?_
 by_cases h0 : 0 ≤ ixF dxP l
 ·obtain ⟨x0, hx0, hp0⟩ := ixF_get dxP l h0
  generalize hj : (ixF dxP l).toNat = j at *
  have hji : ixF dxP l = (j : Int) := by omega
  rw [hji] at cI
  have hjl := get_lt hx0
  have hpre : kpX (l.take j) = l.take j := kpI fun x hx => by
   obtain ⟨q, hq⟩ := List.mem_iff_getElem?.1 hx
   rw [List.getElem?_take] at hq
   split at hq
   ·rename_i hlt
    intro e
    exact Bool.noConfusion ((ixF_first dxP l q (by omega) x hq).symm.trans (decide_eq_true e))
   ·cases hq
  have hK0 : kpX (l.take (j + 1)) = l.take j := by rw [kpX_next hx0, if_pos (of_decide_eq_true hp0), hpre]
  repeat' (first | ((with_reducible refine kAL ?_); (first | (refine kL 2410 rfl ?_; first | refine uK (cI) ?_) | (refine kL 12 rfl ?_; first | refine A_clear rfl rfl rfl ud49 inf82 rfl rfl rfl rfl (by first | omega | (simp <;> fail) | (simp; omega)) qN ?_) | refine uA ?_)) | refine uC ?_ | refine kcp rfl (fun hc => ?_) (fun hc => ?_) | refine kcn rfl (fun hc => ?_) (fun hc => ?_) | refine kcb rfl (fun hc => ?_) (fun hc => ?_) | refine kcc rfl (fun hc => ?_) (fun hc => ?_) | fail)
  all_goals first | (exfalso; omega) | skip
  refine AW.loopP (fun (x : Nat × List DXg) => x.1 ≤ l.length ∧ x.2.length = l.length ∧ (kpX (l.take x.1)).length < x.1 ∧ x.2.take (kpX (l.take x.1)).length = kpX (l.take x.1) ∧ ∀ i, x.1 ≤ i → x.2[i]? = l[i]?) (fun (x : Nat × List DXg) => (pu (pu (pu (pu (fun _ => .any) 0 (.sl 0 k l.length)) 1 (.fn (.func f) [] [])) 5 (i64 (kpX (l.take x.1)).length)) 6 (i64 x.1))) (fun (x : Nat × List DXg) => [.row k 82 3 (x.2.map tXg)]) (fun (x : Nat × List DXg) => l.length - x.1) ((j + 1, l)) ?_ ?_ ?_
  ·dsimp only
   rw [hK0, List.length_take, Nat.min_eq_left (by omega)]
   exact ⟨by omega, rfl, by omega, rfl, fun _ _ => rfl⟩
  ·dsimp only
   rw [hK0, List.length_take, Nat.min_eq_left (by omega)]
   exact Wk.cq 1
  ·rintro ⟨q, M⟩ ⟨hq, hM, hK, hT, hR⟩
   dsimp only at hq hM hK hT hR ⊢
   have hM1 : (M.map tXg).length = l.length := by rw [List.length_map, hM]
   by_cases hq2 : q < l.length
   ·obtain ⟨x, hx⟩ : ∃ x, l[q]? = some x := ⟨_, List.getElem?_eq_getElem hq2⟩
    have hMx : M[q]? = some x := by rw [hR q (Nat.le_refl _), hx]
    have hn := kpX_next hx
    have c1 := cv x
    by_cases e : x.old = x.now
    ·rw [if_pos e] at hn
     rw [show dxP x = true from decide_eq_true e] at c1
     generalize hKq : kpX (l.take q) = K at *
     obtain ⟨xa, xo, xn⟩ := x
     repeat' (first | ((with_reducible refine kAL ?_); (first | (refine kL 12 rfl ?_; first | refine A_clear rfl rfl rfl ud49 inf82 rfl rfl rfl rfl (by first | omega | (simp <;> fail) | (simp; omega)) qN ?_) | (refine kL 11 rfl ?_; first | refine uV (c1) ?_) | refine uA ?_)) | refine uC ?_ | refine kcp rfl (fun hc => ?_) (fun hc => ?_) | refine kcn rfl (fun hc => ?_) (fun hc => ?_) | refine kcb rfl (fun hc => ?_) (fun hc => ?_) | refine kcc rfl (fun hc => ?_) (fun hc => ?_) | fail)
     all_goals first | (exfalso; omega) | skip
     refine ⟨(q + 1, M), ⟨by dsimp only; omega, hM, by dsimp only; rw [hn]; omega, by dsimp only; rw [hn]; exact hT, fun i hi => hR i (by dsimp only at hi; omega)⟩, by dsimp only; omega, ?_⟩
     dsimp only
     rw [hn]
     exact Wk.cq 1
    ·rw [if_neg e] at hn
     rw [show dxP x = false from decide_eq_false e] at c1
     generalize hKq : kpX (l.take q) = K at *
     obtain ⟨y, hy⟩ : ∃ y, M[K.length]? = some y := ⟨_, List.getElem?_eq_getElem (by omega)⟩
     obtain ⟨xa, xo, xn⟩ := x
     repeat' (first | ((with_reducible refine kAL ?_); (first | (refine kL 12 rfl ?_; first | refine A_clear rfl rfl rfl ud49 inf82 rfl rfl rfl rfl (by first | omega | (simp <;> fail) | (simp; omega)) qN ?_) | (refine kL 2627 rfl ?_; first | refine A_store_rp rfl rfl 82 _ _ rfl inf82 (by decide) rfl rfl (by first | exact map_get (by assumption) | assumption | exact map_get hMx | exact map_get hy) rfl rfl rfl (Nat.le_of_ble_eq_true rfl) (by first | exact map_set (f := tXg) (x := ⟨xa, xo, xn⟩) | exact qN) qN ?_) | (refine kL 11 rfl ?_; first | refine uV (c1) ?_) | refine uA ?_)) | refine uC ?_ | refine kcp rfl (fun hc => ?_) (fun hc => ?_) | refine kcn rfl (fun hc => ?_) (fun hc => ?_) | refine kcb rfl (fun hc => ?_) (fun hc => ?_) | refine kcc rfl (fun hc => ?_) (fun hc => ?_) | fail)
     all_goals first | (exfalso; omega) | skip
     refine ⟨(q + 1, M.set K.length ⟨xa, xo, xn⟩), ⟨by dsimp only; omega, by dsimp only; rw [List.length_set]; exact hM, by dsimp only; rw [hn, List.length_append, List.length_singleton]; omega, ?_, fun i hi => ?_⟩, by dsimp only; omega, ?_⟩
     ·dsimp only
      rw [hn, List.length_append, List.length_singleton, List.take_add_one, List.getElem?_set, if_pos rfl, if_pos (by omega), List.take_set_of_le (Nat.le_refl _), hT]
      rfl
     ·dsimp only at hi ⊢
      rw [List.getElem?_set, if_neg (by omega)]
      exact hR i (by omega)
     ·dsimp only
      rw [hn, List.length_append, List.length_singleton]
      exact Wk.cq 1
   ·have e : q = l.length := by omega
    subst e
    rw [List.take_length] at *
    repeat' (first | ((with_reducible refine kAL ?_); (first | (refine kL 12 rfl ?_; first | refine A_clear rfl rfl rfl ud49 inf82 rfl rfl rfl rfl (by first | omega | (simp <;> fail) | (simp; omega)) qN ?_) | refine uA ?_)) | refine uC ?_ | refine kcp rfl (fun hc => ?_) (fun hc => ?_) | refine kcn rfl (fun hc => ?_) (fun hc => ?_) | refine kcb rfl (fun hc => ?_) (fun hc => ?_) | refine kcc rfl (fun hc => ?_) (fun hc => ?_) | fail)
    all_goals first | (exfalso; omega) | skip
    rw [← List.map_take, hT]
    (first | exact Fin.q Try.results54 (.cons (.tmp rfl) .nil) [] | refine Fin.q Try.results54 (.cons (.tmp rfl) .nil) [] (hr := (.t ?_)) | refine Fin.mkv (rs := _) Try.results54 (.cons (.tmp rfl) .nil) [] (by decide) rfl ?_ ?_ ?_ <;> repeat' (skip; first | exact .nil | refine .cons rfl ?_ ?_ | refine .cons ?_ ?_ | refine .row ?_ | refine .rset ?_ | refine .box ?_ | exact .gone | refine .aggL ?_ | refine .tupL ?_ | refine .old rfl ?_ | refine .new rfl rfl rfl ?_ | exact .nl | exact .optr rfl | exact .nptr rfl rfl rfl | refine .t ?_ | exact .any _ | rfl))
 ·have hno : ∀ (q : Nat) b, l[q]? = some b → dxP b = false := fun q b hb => by
   cases hp : dxP b
   ·rfl
   ·exact absurd (ixF_yes dxP hb hp) h0
  have hid : kpX l = l := kpI fun x hx => by
   obtain ⟨q, hq⟩ := List.getElem?_of_mem hx
   exact of_decide_eq_false (hno q x hq)
  rw [ixF_none dxP l hno] at cI
  rw [hid]
  repeat' (first | ((with_reducible refine kAL ?_); (first | (refine kL 2410 rfl ?_; first | refine uK (cI) ?_) | (refine kL 12 rfl ?_; first | refine A_clear rfl rfl rfl ud49 inf82 rfl rfl rfl rfl (by first | omega | (simp <;> fail) | (simp; omega)) qN ?_) | refine uA ?_)) | refine uC ?_ | refine kcp rfl (fun hc => ?_) (fun hc => ?_) | refine kcn rfl (fun hc => ?_) (fun hc => ?_) | refine kcb rfl (fun hc => ?_) (fun hc => ?_) | refine kcc rfl (fun hc => ?_) (fun hc => ?_) | fail)
  all_goals first | (exfalso; omega) | ((first | exact Fin.q Try.results54 (.cons (.tmp rfl) .nil) [] | refine Fin.q Try.results54 (.cons (.tmp rfl) .nil) [] (hr := (.t ?_)) | refine Fin.mkv (rs := _) Try.results54 (.cons (.tmp rfl) .nil) [] (by decide) rfl ?_ ?_ ?_ <;> repeat' (skip; first | exact .nil | refine .cons rfl ?_ ?_ | refine .cons ?_ ?_ | refine .row ?_ | refine .rset ?_ | refine .box ?_ | exact .gone | refine .aggL ?_ | refine .tupL ?_ | refine .old rfl ?_ | refine .new rfl rfl rfl ?_ | exact .nl | exact .optr rfl | exact .nptr rfl rfl rfl | refine .t ?_ | exact .any _ | rfl)))
end
section
abbrev encX (x : DXg) : List Value := [.int .i64 x.addr, .int .u64 x.old, .int .u64 x.now]
abbrev cfX (x y : DXg) : Int := if x.addr < y.addr then -1 else 1
theorem ltX (x y : DXg) : Go.Proofs.ltOf cfX x y = decide (x.addr < y.addr) := by
 unfold Go.Proofs.ltOf cfX
 by_cases h : x.addr < y.addr <;> simp [h]
theorem swoX : Go.Sort.SWO (Go.Proofs.ltOf cfX) where
 irrefl x := by rw [ltX]; simp
 trans x y z h1 h2 := by rw [ltX] at *; simp at *; omega
 ntrans x y z h1 h2 := by rw [ltX] at *; simp at *; omega
abbrev srX (l : List DXg) : List DXg := l.foldl insX []
theorem srX_of {l D : List DXg} (hn : ndX l) (hp : ∀ z, z ∈ D ↔ z ∈ l) (hr : riX D) : D = srX l := by
 have key : ∀ (q : List DXg), ndX q → riX (srX q) ∧ ∀ z, z ∈ srX q ↔ z ∈ q := by
  intro q hq
  have : ∀ (n : Nat), n ≤ q.length → riX (srX (q.take n)) ∧ ∀ z, z ∈ srX (q.take n) ↔ z ∈ q.take n := by
   intro n
   induction n with
   | zero => intro _; exact ⟨List.Pairwise.nil, fun z => by simp [srX]⟩
   | succ n ih =>
    intro hle
    obtain ⟨h1, h2⟩ := ih (by omega)
    have hx : q[n]? = some q[n] := List.getElem?_eq_getElem (by omega)
    have e : srX (q.take (n + 1)) = insX (srX (q.take n)) q[n] := by unfold srX; rw [List.take_add_one, hx, List.foldl_append]; rfl
    rw [e]
    refine ⟨insX_ri h1 fun y hy he => ?_, fun z => ?_⟩
    ·obtain ⟨i, hi⟩ := List.getElem?_of_mem ((h2 y).1 hy)
     rw [List.getElem?_take] at hi
     split at hi
     ·have := fiX_one hq hi he
      have := fiX_one hq hx rfl
      omega
     ·cases hi
    ·rw [insX_mem, h2, List.take_add_one, hx, List.mem_append]
     simp [or_comm]
  have h := this q.length (Nat.le_refl _)
  rwa [List.take_length] at h
 obtain ⟨h1, h2⟩ := key l hn
 exact riX_eq hr h1 fun z => by rw [hp, h2]
theorem srX_len {l : List DXg} : (srX l).length = l.length := by
 have : ∀ (q O : List DXg), (q.foldl insX O).length = O.length + q.length := by
  intro q
  induction q with
  | nil => intro O; simp
  | cons x q ih =>
   intro O
   rw [List.foldl_cons, ih]
   unfold insX
   have := plX_le O x.addr O.length
   simp only [List.length_append, List.length_take, List.length_drop, List.length_singleton, List.length_cons, List.length_nil]
   omega
 have h := this l []
 simpa using h
theorem perm_srX {l : List DXg} (hn : ndX l) {d : Array DXg} (hp : Go.Sort.PermIn 0 l.length l.toArray d) (hs : Go.Sort.SortedIn (Go.Proofs.ltOf cfX) 0 l.length d) : d.toList = srX l := by
 obtain ⟨h1, _, h3⟩ := hp
 have hsz : d.size = l.length := by simpa using h1
 have e1 : (d.extract 0 l.length).toList = d.toList := by rw [← hsz]; simp
 have e2 : (l.toArray.extract 0 l.length).toList = l := by rw [Array.toList_extract]; simp [List.extract]
 rw [e1, e2] at h3
 refine srX_of hn (fun z => h3.mem_iff) ?_
 have hnd : (d.toList.map (·.addr)).Nodup := (h3.map (·.addr)).nodup_iff.2 hn
 refine List.pairwise_iff_getElem.2 fun i j hi hj hij => ?_
 have hj' : j < l.length := by simpa [hsz] using hj
 have h := hs i j (Nat.zero_le _) hij hj'
 rw [ltX] at h
 rw [getElem!_pos d j (by omega), getElem!_pos d i (by omega)] at h
 have h4 : ¬ d[j].addr < d[i].addr := of_decide_eq_false h
 have h5 := (List.pairwise_iff_getElem.1 hnd) i j (by simpa using hi) (by simpa using hj) hij
 simp only [List.getElem_map, Array.getElem_toList] at h5 ⊢
 omega
theorem sort_ix {P : Program} {f g : FuncId}
  (hs : ∀ (blk cap : Nat) (zs : List DXg) (w : World), Go.Sort.HoldsK encX 3 w blk 0 zs.toArray → blk < w.heap.size → zs.length < 4611686018427387904 →
   Calls P f #[.slice (some ⟨blk, 0, none⟩) zs.length cap, .func (.func g) #[] #[]] w fun e w' => e = .returned (.tuple #[]) ∧ ∃ d' n os, Go.Sort.PermIn 0 zs.length zs.toArray d' ∧ Go.Sort.SortedIn (Go.Proofs.ltOf cfX) 0 zs.length d' ∧ w' = Go.Proofs.sortWorldK encX 3 w blk 0 n d' os)
  (h0 : ∀ (p : Option Addr) (cap : Nat) (fv : Value) (w : World), Calls P f #[.slice p 0 cap, fv] w fun e w' => e = .returned (.tuple #[]) ∧ w' = w)
  {k : Nat} {E : TypeId} (l : List DXg) (hn : ndX l) (hl : l.length < 4611686018427387904) : Cio P f [.sl 0 k l.length, .fn (.func g) [] []] [.row k E 3 (l.map tXg)] (.tup []) [.row k E 3 ((srX l).map tXg)] := by
 intro e vs hH hrep hdom hav
 have ok : Ok e [.row k E 3 (l.map tXg)] e.W e.ρ e.Z e.Y := ⟨hrep, hdom, fun b h => .inl h, fun _ h => h, fun _ h => h, fun i q h => ⟨by rw [← hH]; exact h, rfl⟩, rfl, rfl, rfl, Nat.le_refl _, fun _ _ => rfl⟩
 obtain ⟨v, u, rfl⟩ : ∃ v u, vs = [v, u] := by
  have := hav.len
  cases vs with
  | nil => simp at this
  | cons a t => cases t with
   | nil => simp at this
   | cons b t => cases t with
    | nil => exact ⟨a, b, rfl⟩
    | cons c t => simp at this
 have hv := hav.at_ 0 _ _ rfl rfl
 have hu := hav.at_ 1 _ _ rfl rfl
 obtain ⟨h1, xs, h2, h3⟩ := hrep.obs 0 _ rfl
 generalize hq : AV.sl 0 k l.length = q at hv
 cases hv <;> cases hq
 rename_i hk hc hz
 generalize hq' : AV.fn (.func g) [] [] = q' at hu
 cases hu <;> cases hq'
 rename_i us vs' e1 e2 _ _
 have f1 : us.length = 0 := by first | exact e1.symm | exact e2.symm | simp_all
 have f2 : vs'.length = 0 := by first | exact e2.symm | exact e1.symm | simp_all
 obtain rfl : us = [] := List.eq_nil_of_length_eq_zero f1
 obtain rfl : vs' = [] := List.eq_nil_of_length_eq_zero f2
 rw [List.length_map] at h3
 by_cases hn0 : l = []
 ·subst hn0
  refine (h0 _ _ _ _).mono ?_
  rintro en w' ⟨rfl, rfl⟩
  exact ⟨.tuple #[], .tup [], _, e.ρ, e.Z, e.Y, rfl, ⟨rfl, rfl⟩, ok, .tup (us := []) rfl (fun j x u h => by simp at h)⟩
 ·have hpos : 0 < l.length := List.length_pos_iff.2 hn0
  rcases h3 with ⟨_, hn1, _⟩ | ⟨hcp, hown⟩
  ·omega
  have hown2 := hown
  rcases hown.2 with ⟨he, hn1⟩ | ⟨g', cap, cur, he, hbg, hg, hnc, hcm, hcs, htake⟩
  ·omega
  simp only [Value.slice.injEq] at he
  obtain ⟨ha, _, hcc⟩ := he
  rw [ha, hcc]
  have hsz : l.length * 3 ≤ cur.size := by rw [hcs]; omega
  have hxs : xs = cur.toList.take (l.length * 3) := htake.symm
  have hx : ∀ (i j : Nat) (hi : i < l.length) (hj : j < 3), cur[i * 3 + j]? = some ((encX l[i])[j]!) := by
   intro i j hi hj
   have h3i : i * 3 + j < l.length * 3 := by omega
   have hcell : ∀ x, (tXg l[i])[j]? = some x → ∃ u, cur[i * 3 + j]? = some u ∧ Frz e.W e.Z x u := by
    intro x hxj
    obtain ⟨u, q1, q2⟩ := h2.cell (i := i) (cs := tXg l[i]) (by rw [List.getElem?_map, List.getElem?_eq_getElem hi]; rfl) hxj
    rw [hxs, List.getElem?_take, if_pos h3i, Array.getElem?_toList] at q1
    exact ⟨u, q1, q2⟩
   rcases (show j = 0 ∨ j = 1 ∨ j = 2 by omega) with rfl | rfl | rfl
   ·obtain ⟨u, q1, q2⟩ := hcell (.v (.int .i64 l[i].addr)) rfl; cases q2; exact q1
   ·obtain ⟨u, q1, q2⟩ := hcell (.v (.int .u64 l[i].old)) rfl; cases q2; exact q1
   ·obtain ⟨u, q1, q2⟩ := hcell (.v (.int .u64 l[i].now)) rfl; cases q2; exact q1
  have hlt : g' < e.W.heap.size := by
   rcases Nat.lt_or_ge g' e.W.heap.size with h | h
   ·exact h
   ·rw [Array.getElem?_eq_none h] at hg; cases hg
  have hH2 : Go.Sort.HoldsK encX 3 e.W g' 0 l.toArray := by
   intro t ht
   have ht' : t < l.length * 3 := by simpa using ht
   have hi : t / 3 < l.length := by omega
   have hj : t % 3 < 3 := Nat.mod_lt _ (by omega)
   have htt : t / 3 * 3 + t % 3 = t := by omega
   constructor
   ·unfold World.cell?
    have h := hx (t / 3) (t % 3) hi hj
    rw [htt] at h
    simp only [hg, Option.isSome_none, Bool.false_eq_true, if_false, Nat.zero_add, h]
    rw [Go.Sort.get_flatK _ _ _ _ (by simpa using ht'), getElem!_pos l.toArray (t / 3) (by simpa using hi)]
    simp
   ·unfold World.frozen?
    simp [hg]
  refine (hs g' cap l e.W hH2 hlt hl).mono ?_
  rintro en w' ⟨rfl, d', n, os, hp, hsd, rfl⟩
  have hD := perm_srX hn hp hsd
  obtain rfl : d' = (srX l).toArray := by rw [← hD]
  have hsl : (srX l).length = l.length := srX_len
  clear hp hsd hD hs h0
  generalize srX l = D at *
  generalize hw : Go.Proofs.sortWorldK encX 3 e.W g' 0 n D.toArray os = w'
  have hF : (Go.Sort.flatK encX 3 D.toArray).size = l.length * 3 := by simp [hsl]
  have hgrow : ∀ b, b < e.W.heap.size → b ≠ g' → w'.heap[b]? = e.W.heap[b]? := by
   intro b hb hne
   subst hw
   unfold Go.Proofs.sortWorldK Go.Sort.grow Go.Sort.putRowK Go.Sort.putRow Go.Sort.mapBlock Go.Sort.ahead
   dsimp only
   rw [Array.getElem?_append_left (by simpa using hb), Array.getElem?_modify, if_neg (Ne.symm hne)]
  have hgg : w'.heap[g']? = some (.cells (Go.Sort.putCells id 0 (Go.Sort.flatK encX 3 D.toArray) cur) E (0, 0)) := by
   subst hw
   unfold Go.Proofs.sortWorldK Go.Sort.grow Go.Sort.putRowK Go.Sort.putRow Go.Sort.mapBlock Go.Sort.ahead
   dsimp only
   rw [Array.getElem?_append_left (by simpa using hlt), Array.getElem?_modify, if_pos rfl, hg]
   rfl
  have hsize : e.W.heap.size ≤ w'.heap.size := by subst hw; simp [Go.Proofs.sortWorldK, Go.Sort.grow, Go.Sort.putRowK, Go.Sort.putRow, Go.Sort.mapBlock, Go.Sort.ahead]
  have h3 : Same3 e.W w' := by subst hw; exact ⟨rfl, rfl, rfl⟩
  have hblk : (Ob.row k E 3 (l.map tXg)).blk e.ρ 0 = some g' := by
   show (if (e.ρ 0 k).c = 0 then none else (e.ρ 0 k).a.map (·.block)) = some g'
   rw [if_neg (by omega), ha]; rfl
  have hcells : (Go.Sort.putCells id 0 (Go.Sort.flatK encX 3 D.toArray) cur).toList.take (l.length * 3) = (Go.Sort.flatK encX 3 D.toArray).toList := by
   apply List.ext_getElem?
   intro j
   rw [List.getElem?_take, Array.getElem?_toList]
   unfold Go.Sort.putCells
   rw [Array.getElem?_mapIdx]
   by_cases hj : j < l.length * 3
   ·rw [if_pos hj, Array.getElem?_eq_getElem (by omega), Option.map_some, if_pos (by simp; omega), Nat.sub_zero, getElem!_pos (Go.Sort.flatK encX 3 D.toArray) j (by omega), Array.getElem?_toList, Array.getElem?_eq_getElem (by omega)]
    rfl
   ·rw [if_neg hj, List.getElem?_eq_none (by simp; omega)]
  have hel : Elems (Frz w' e.Z) 3 (D.map tXg) (Go.Sort.flatK encX 3 D.toArray).toList := by
   refine ⟨by simp, fun cs hcs => by obtain ⟨x, _, rfl⟩ := List.mem_map.1 hcs; rfl, fun i cs j x u hi hj hu => ?_⟩
   rw [List.getElem?_map] at hi
   cases hs' : D[i]? with
   | none => rw [hs'] at hi; cases hi
   | some a =>
    rw [hs'] at hi
    cases hi
    have hiD := (List.getElem?_eq_some_iff.1 hs').1
    have hj3 : j < 3 := by
     rcases Nat.lt_or_ge j 3 with h | h
     ·exact h
     ·rw [List.getElem?_eq_none (by exact h)] at hj; cases hj
    rw [Array.getElem?_toList, Array.getElem?_eq_getElem (by rw [hF, ← hsl]; omega), ← getElem!_pos, Go.Sort.get_flatK _ _ _ _ (by simp; omega)] at hu
    have e3 : (i * 3 + j) / 3 = i := by omega
    have e4 : (i * 3 + j) % 3 = j := by omega
    rw [e3, e4, getElem!_pos D.toArray i (by simpa using hiD)] at hu
    have e5 : D.toArray[i]'(by simpa using hiD) = a := by simpa using (List.getElem?_eq_some_iff.1 hs').2
    rw [e5] at hu
    rcases (show j = 0 ∨ j = 1 ∨ j = 2 by omega) with rfl | rfl | rfl
    ·cases hj; cases hu; exact .v rfl
    ·cases hj; cases hu; exact .v rfl
    ·cases hj; cases hu; exact .v rfl
  have ok' := ok.turn (i := 0) (o := .row k E 3 (l.map tXg)) (o' := .row k E 3 (D.map tXg)) (ρ' := e.ρ) (w' := w') rfl (Nat.le_refl _) (fun _ _ _ => rfl) h3 hsize
   (fun b hb hne => hgrow b hb (fun he => hne (by rw [hblk, he]))) ⟨h1, _, hel, by
    rw [List.length_map, hsl, ha, hcc]
    refine .inr ⟨by omega, ⟨by simp [hsl], .inr ⟨g', cap, _, rfl, hbg, hgg, hnc, hcm, ?_, ?_⟩⟩⟩
    ·simp [Go.Sort.putCells, hcs]
    ·exact hcells⟩ (fun b hb => .inl hb)
  exact ⟨.tuple #[], .tup [], _, e.ρ, e.Z, e.Y, rfl, ⟨rfl, rfl⟩, ok', .tup (us := []) rfl (fun j x u h => by simp at h)⟩
end
section
def sortF_ren : Go.Shelf.Ren := ⟨fun | 6 => 56 | 15 => 77 | 14 => 76 | 28 => 95 | 29 => 96 | 20 => 87 | 21 => 88 | 22 => 89 | 23 => 90 | 24 => 91 | 25 => 92 | 26 => 93 | 27 => 94 | 46 => 111 | 47 => 112 | 48 => 113 | 49 => 114 | 50 => 115 | 57 => 122 | n => n, fun | 22 => 49 | 24 => 82 | 25 => 103 | 3 => 3 | 39 => 133 | 0 => 0 | 53 => 147 | 55 => 80 | 4 => 4 | 46 => 141 | 45 => 140 | 50 => 99 | 5 => 5 | 9 => 9 | 66 => 157 | 70 => 161 | 76 => 166 | 77 => 167 | n => n, fun | n => n⟩
theorem sortF_lay : Go.Proofs.SlLaysF0.n6 Try.prog sortF_ren := {
 mixed := by kernel_rfl
 f6 := ⟨Try.f56.name, by decide, Try.func56.trans (congrArg some (by kernel_rfl))⟩
 f14 := ⟨Try.f76.name, by decide, Try.func76.trans (congrArg some (by kernel_rfl))⟩
 f15 := Try.func77.trans (congrArg some (by kernel_rfl))
 f20 := ⟨Try.f87.name, by decide, Try.func87.trans (congrArg some (by kernel_rfl))⟩
 f21 := ⟨Try.f88.name, by decide, Try.func88.trans (congrArg some (by kernel_rfl))⟩
 f22 := ⟨Try.f89.name, by decide, Try.func89.trans (congrArg some (by kernel_rfl))⟩
 f23 := ⟨Try.f90.name, by decide, Try.func90.trans (congrArg some (by kernel_rfl))⟩
 f24 := ⟨Try.f91.name, by decide, Try.func91.trans (congrArg some (by kernel_rfl))⟩
 f25 := ⟨Try.f92.name, by decide, Try.func92.trans (congrArg some (by kernel_rfl))⟩
 f26 := ⟨Try.f93.name, by decide, Try.func93.trans (congrArg some (by kernel_rfl))⟩
 f27 := ⟨Try.f94.name, by decide, Try.func94.trans (congrArg some (by kernel_rfl))⟩
 f28 := Try.func95.trans (congrArg some (by kernel_rfl))
 f29 := Try.func96.trans (congrArg some (by kernel_rfl))
 f46 := ⟨Try.f111.name, by decide, Try.func111.trans (congrArg some (by kernel_rfl))⟩
 f47 := Try.func112.trans (congrArg some (by kernel_rfl))
 f48 := Try.func113.trans (congrArg some (by kernel_rfl))
 f49 := ⟨Try.f114.name, by decide, Try.func114.trans (congrArg some (by kernel_rfl))⟩
 f50 := ⟨Try.f115.name, by decide, Try.func115.trans (congrArg some (by kernel_rfl))⟩
 f57 := ⟨Try.f122.name, by decide, Try.func122.trans (congrArg some (by kernel_rfl))⟩
 t0 := Try.underlying0
 a0 := Try.isAgg0
 z0 := Try.sizeOf0
 v0 := Try.zeroValue0
 t3 := Try.underlying3
 a3 := Try.isAgg3
 z3 := Try.sizeOf3
 v3 := Try.zeroValue3
 t4 := Try.underlying4
 a4 := Try.isAgg4
 z4 := Try.sizeOf4
 v4 := Try.zeroValue4
 t5 := Try.underlying5
 a5 := Try.isAgg5
 z5 := Try.sizeOf5
 v5 := Try.zeroValue5
 t9 := Try.underlying9
 a9 := Try.isAgg9
 z9 := Try.sizeOf9
 v9 := Try.zeroValue9
 t22 := Try.underlying49
 a22 := Try.isAgg49
 z22 := Try.sizeOf49
 v22 := Try.zeroValue49
 t25 := Try.underlying103
 a25 := Try.isAgg103
 z25 := Try.sizeOf103
 v25 := Try.zeroValue103
 t39 := Try.underlying133
 a39 := Try.isAgg133
 z39 := Try.sizeOf133
 v39 := Try.zeroValue133
 t45 := Try.underlying140
 a45 := Try.isAgg140
 z45 := Try.sizeOf140
 v45 := Try.zeroValue140
 t46 := Try.underlying141
 a46 := Try.isAgg141
 z46 := Try.sizeOf141
 v46 := Try.zeroValue141
 t50 := Try.underlying99
 a50 := Try.isAgg99
 z50 := Try.sizeOf99
 v50 := Try.zeroValue99
 t53 := Try.underlying147
 a53 := Try.isAgg147
 z53 := Try.sizeOf147
 v53 := Try.zeroValue147
 t55 := Try.underlying80
 a55 := Try.isAgg80
 z55 := Try.sizeOf80
 v55 := Try.zeroValue80
 t66 := Try.underlying157
 a66 := Try.isAgg157
 z66 := Try.sizeOf157
 v66 := Try.zeroValue157
 t70 := Try.underlying161
 a70 := Try.isAgg161
 z70 := Try.sizeOf161
 v70 := Try.zeroValue161
 t76 := Try.underlying166
 a76 := Try.isAgg166
 z76 := Try.sizeOf166
 v76 := Try.zeroValue166
 t77 := Try.underlying167
 a77 := Try.isAgg167
 z77 := Try.sizeOf167
 v77 := Try.zeroValue167 }
theorem cmpX_run (x y : DXg) (W : World) : Calls Try.prog 57 #[.agg (encX x).toArray, .agg (encX y).toArray] W fun e w' => e = .returned (.int .i64 (cfX x y)) ∧ ∃ q os', w' = Go.Sort.grow (W.drewN q) os' := by
 unfold cfX
 obtain ⟨xa, xo, xn⟩ := x
 obtain ⟨ya, yo, yn⟩ := y
 dsimp only [encX]
 go_enter Try.func57, Try.ntmps57
 by_cases h : xa < ya
 ·go_wp2
  go_ret
  exact ⟨rfl, 0, _, by rw [Go.Sort.alloc_eq_grow, Go.Sort.alloc_eq_grow, Go.Sort.grow_grow]; rfl⟩
 ·go_wp2
  go_ret
  exact ⟨rfl, 0, _, by rw [Go.Sort.alloc_eq_grow, Go.Sort.alloc_eq_grow, Go.Sort.grow_grow]; rfl⟩
theorem sortX_c {k : Nat} {E : TypeId} (l : List DXg) (hn : ndX l) (hl : l.length < 4611686018427387904) : Cio Try.prog 56 [.sl 0 k l.length, .fn (.func 57) [] []] [.row k E 3 (l.map tXg)] (.tup []) [.row k E 3 ((srX l).map tXg)] := by
 have eg : ∀ args w, (callFunc 57 args).run Try.prog w = .ok (.enter 57 args) w := enters_of Try.func57 (by kernel_rfl) rfl
 refine sort_ix (fun blk cap zs w h1 h2 h3 => ?_) (fun p cap fv w => AnyF.slices_SortFunc_none sortF_lay p cap fv w) l hn hl
 have h := AnyQ.slices_SortFunc sortF_lay 3 Try.isAgg82 Try.sizeOf82 encX (fun _ => rfl) (fun x v hv => by simp [encX] at hv; rcases hv with rfl | rfl | rfl <;> rfl) cfX swoX 57 #[] blk 0 cap zs.toArray w eg (fun _ _ _ _ x y => cmpX_run x y _) h1 h2 (by simpa using h3)
 exact h
end
end Go.Proofs.Ytnibnbcmnaflmaa
