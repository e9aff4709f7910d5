/- Joined: XTMem, XTOkW, XTClones, XTCases, XTWaits, XTFirst, XTFirstR, XTStab, XTSort, XTOn, XTSortM, XTSortW, XTPWaits, XTLaw10, XTOnB, XTLaw10b, XTLaw10c, XTChans, XTChansB, XTChansC, XTShut, XTLaw11, XTOnR, XTLaw11c, XPl, XTHallP, XTHallC, XTHallI. -/
import Derived.Test.YtnfbggpkiekpdaaKR15h
import Derived.Test.YtnfbggpkiekpdaaKR15f
import Derived.Test.YtnfbggpkiekpdaaKR15j
import Derived.Test.YtnfbggpkiekpdaaKR15e
import Derived.Test.YtnfbggpkiekpdaaKR15c
import Derived.Test.YtnfbggpkiekpdaaKR15d
import Derived.Test.YtnfbggpkiekpdaaKR15a
namespace Go.Proofs.Ytnfbggpkiekpdaa
open Go.RowKit
set_option linter.unusedVariables false
set_option linter.unusedSimpArgs false
set_option linter.unnecessarySimpa false
set_option maxRecDepth 100000
set_option maxHeartbeats 64000000
section
attribute [local irreducible] AL AW RG Fin C Cd Cio thenQ blockQ retQ
set_option maxRecDepth 100000
abbrev mB (k n : Nat) : Ob := .box 92 [.sl 1 k n, .nl, .nl, bo false]
abbrev mR (k : Nat) (l : List Int) : Ob := .row k 69 1 (l.map tU)
abbrev pnil : AV := .t (.v (.pointer none))
theorem poke_map {l ws : List Int} {a q : Nat} (h : q = ws.length) : (l.map tU).take a ++ ws.map tU ++ (l.map tU).drop (a + q) = (pokeL l a ws).map tU := by
 subst h; unfold pokeL; simp only [List.map_append, List.map_take, List.map_drop]
theorem mmade_c (k n : Nat) (l : List Int) (hn : l.length = n) (h0 : 0 < n) : Cio Try.prog 81 [.ptr 0 0] [mB k n, mR k l] (bo true) [mB k n, mR k l] := by
 refine Cio.enter' Try.func81 rfl Try.ntmps81 rfl qM ?_
 repeat' (first | ((with_reducible refine kAL ?_); (first | refine uA ?_ | refine uS 5 (fun hb => ?_) (fun hb => ?_))) | refine uC ?_ | refine kcp rfl (fun hc => ?_) (fun hc => ?_) | refine kcn rfl (fun hc => ?_) (fun hc => ?_) | refine kcb rfl (fun hc => ?_) (fun hc => ?_) | refine kcc rfl (fun hc => ?_) (fun hc => ?_) | fail)
 all_goals first | (exfalso; omega) | ((first | exact Fin.q Try.results81 (.cons (.tmp rfl) .nil) [] | refine Fin.q Try.results81 (.cons (.tmp rfl) .nil) [] (hr := (.t ?_)) | refine Fin.mkv (rs := _) Try.results81 (.cons (.tmp rfl) .nil) [] (by decide) rfl ?_ ?_ ?_ <;> repeat' (skip; first | exact .nil | refine .cons rfl ?_ ?_ | refine .cons ?_ ?_ | refine .row ?_ | refine .rset ?_ | refine .box ?_ | exact .gone | refine .aggL ?_ | refine .tupL ?_ | refine .old rfl ?_ | refine .new rfl rfl rfl ?_ | exact .nl | exact .optr rfl | exact .nptr rfl rfl rfl | refine .t ?_ | exact .any _ | rfl)))
theorem mmade_n : Cd Try.prog 81 [pnil] (bo false) [] := by
 refine Cd.enter' Try.func81 rfl Try.ntmps81 rfl ?_
 repeat' (first | ((with_reducible refine kAL ?_); (first | refine uA ?_ | refine uS 5 (fun hb => ?_) (fun hb => ?_))) | refine uC ?_ | refine kcp rfl (fun hc => ?_) (fun hc => ?_) | refine kcn rfl (fun hc => ?_) (fun hc => ?_) | refine kcb rfl (fun hc => ?_) (fun hc => ?_) | refine kcc rfl (fun hc => ?_) (fun hc => ?_) | fail)
 all_goals first | (exfalso; omega) | ((first | exact Fin.q Try.results81 (.cons (.tmp rfl) .nil) [] | refine Fin.q Try.results81 (.cons (.tmp rfl) .nil) [] (hr := (.t ?_)) | refine Fin.mkv (rs := _) Try.results81 (.cons (.tmp rfl) .nil) [] (by decide) rfl ?_ ?_ ?_ <;> repeat' (skip; first | exact .nil | refine .cons rfl ?_ ?_ | refine .cons ?_ ?_ | refine .row ?_ | refine .rset ?_ | refine .box ?_ | exact .gone | refine .aggL ?_ | refine .tupL ?_ | refine .old rfl ?_ | refine .new rfl rfl rfl ?_ | exact .nl | exact .optr rfl | exact .nptr rfl rfl rfl | refine .t ?_ | exact .any _ | rfl)))
theorem mnew_c (n : Nat) (h0 : 0 < n) (h1 : n ≤ 1048576) : Cd Try.prog 76 [i64 n] (.ptr 0 0) [mB 0 n, mR 0 (List.replicate n 0)] := by
 refine Cd.enter' Try.func76 rfl Try.ntmps76 rfl ?_
 repeat' (first | ((with_reducible refine kAL ?_); (first | (refine kL 816 rfl ?_; first | refine A_make rfl rfl 25 _ _ rfl ud25 inf69 rfl (zs := [(.v (.int .u64 0))]) rfl rfl rfl n (by first | rfl | assumption | omega) (by first | rfl | assumption | omega) qB qB (by first | exact rep_map (f := tU) (x := _) | exact qN) (.push qL qN) ?_ | refine A_make rfl rfl 25 _ _ rfl ud25 inf69 rfl (zs := [(.v (.int .u64 0))]) rfl rfl rfl _ (by first | rfl | assumption | omega) (by first | rfl | assumption | omega) qB qB (by first | exact rep_map (f := tU) (x := _) | exact qN) (.push qL qN) ?_) | refine uA ?_ | refine uS 5 (fun hb => ?_) (fun hb => ?_))) | refine uC ?_ | refine kcp rfl (fun hc => ?_) (fun hc => ?_) | refine kcn rfl (fun hc => ?_) (fun hc => ?_) | refine kcb rfl (fun hc => ?_) (fun hc => ?_) | refine kcc rfl (fun hc => ?_) (fun hc => ?_) | fail)
 all_goals first | (exfalso; omega) | ((first | exact Fin.q Try.results76 (.cons (.tmp rfl) .nil) [1, 0] | refine Fin.q Try.results76 (.cons (.tmp rfl) .nil) [1, 0] (hr := (.t ?_)) | refine Fin.mkv (rs := _) Try.results76 (.cons (.tmp rfl) .nil) [1, 0] (by decide) rfl ?_ ?_ ?_ <;> repeat' (skip; first | exact .nil | refine .cons rfl ?_ ?_ | refine .cons ?_ ?_ | refine .row ?_ | refine .rset ?_ | refine .box ?_ | exact .gone | refine .aggL ?_ | refine .tupL ?_ | refine .old rfl ?_ | refine .new rfl rfl rfl ?_ | exact .nl | exact .optr rfl | exact .nptr rfl rfl rfl | refine .t ?_ | exact .any _ | rfl)))
theorem msize_c (k n : Nat) (l : List Int) (hn : l.length = n) (h0 : 0 < n) : Cio Try.prog 73 [.ptr 0 0] [mB k n, mR k l] (i64 n) [mB k n, mR k l] := by
 have c1 := mmade_c k n l hn h0
 refine Cio.enter' Try.func73 rfl Try.ntmps73 rfl qM ?_
 repeat' (first | ((with_reducible refine kAL ?_); (first | (refine kL 2602 rfl ?_; first | refine uI [0, 1] (c1) ?_) | refine uA ?_)) | refine uC ?_ | refine kcp rfl (fun hc => ?_) (fun hc => ?_) | refine kcn rfl (fun hc => ?_) (fun hc => ?_) | refine kcb rfl (fun hc => ?_) (fun hc => ?_) | refine kcc rfl (fun hc => ?_) (fun hc => ?_) | fail)
 all_goals first | (exfalso; omega) | ((first | exact Fin.q Try.results73 (.cons (.tmp rfl) .nil) [] | refine Fin.q Try.results73 (.cons (.tmp rfl) .nil) [] (hr := (.t ?_)) | refine Fin.mkv (rs := _) Try.results73 (.cons (.tmp rfl) .nil) [] (by decide) rfl ?_ ?_ ?_ <;> repeat' (skip; first | exact .nil | refine .cons rfl ?_ ?_ | refine .cons ?_ ?_ | refine .row ?_ | refine .rset ?_ | refine .box ?_ | exact .gone | refine .aggL ?_ | refine .tupL ?_ | refine .old rfl ?_ | refine .new rfl rfl rfl ?_ | exact .nl | exact .optr rfl | exact .nptr rfl rfl rfl | refine .t ?_ | exact .any _ | rfl)))
theorem mpeek_c (k n : Nat) (l : List Int) (hn : l.length = n) (h0 : 0 < n) (a : Int) (h1 : 0 ≤ a ∧ a < n) : Cio Try.prog 74 [.ptr 0 0, i64 a] [mB k n, mR k l] (u64 (l.getD a.toNat 0)) [mB k n, mR k l] := by
 have c1 := mmade_c k n l hn h0
 obtain ⟨w, hw⟩ : ∃ w, l[a.toNat]? = some w := ⟨_, List.getElem?_eq_getElem (by omega)⟩
 rw [List.getD_eq_getElem?_getD, hw]
 refine Cio.enter' Try.func74 rfl Try.ntmps74 rfl qM ?_
 repeat' (first | ((with_reducible refine kAL ?_); (first | (refine kL 2602 rfl ?_; first | refine uI [0, 1] (c1) ?_) | refine uA ?_ | refine uS 8 (fun hb => ?_) (fun hb => ?_) | refine uS 12 (fun hb => ?_) (fun hb => ?_))) | refine uC ?_ | refine kcp rfl (fun hc => ?_) (fun hc => ?_) | refine kcn rfl (fun hc => ?_) (fun hc => ?_) | refine kcb rfl (fun hc => ?_) (fun hc => ?_) | refine kcc rfl (fun hc => ?_) (fun hc => ?_) | fail)
 all_goals first | (exfalso; omega) | ((first | exact Fin.q Try.results74 (.cons (.tmp rfl) .nil) [] | refine Fin.q Try.results74 (.cons (.tmp rfl) .nil) [] (hr := (.t ?_)) | refine Fin.mkv (rs := _) Try.results74 (.cons (.tmp rfl) .nil) [] (by decide) rfl ?_ ?_ ?_ <;> repeat' (skip; first | exact .nil | refine .cons rfl ?_ ?_ | refine .cons ?_ ?_ | refine .row ?_ | refine .rset ?_ | refine .box ?_ | exact .gone | refine .aggL ?_ | refine .tupL ?_ | refine .old rfl ?_ | refine .new rfl rfl rfl ?_ | exact .nl | exact .optr rfl | exact .nptr rfl rfl rfl | refine .t ?_ | exact .any _ | rfl)))
theorem mpoke_c (k n : Nat) (l ws : List Int) (hn : l.length = n) (h0 : 0 < n) (hm : n ≤ 1048576) (a : Nat) (h1 : a + ws.length ≤ n) : Cio Try.prog 77 [.ptr 0 0, i64 a, .ln (ws.map tU)] [mB k n, mR k l] (i64 0) [mB k n, mR k (pokeL l a ws)] := by
 have c1 := mmade_c k n l hn h0
 have e1 : (ws.map tU).length = ws.length := List.length_map _
 have e2 : (l.map tU).length = l.length := List.length_map _
 refine Cio.enter' Try.func77 rfl Try.ntmps77 rfl qM ?_
 repeat' (first | ((with_reducible refine kAL ?_); (first | (refine kL 2602 rfl ?_; first | refine uI [0, 1] (c1) ?_) | refine uA ?_ | refine uS 14 (fun hb => ?_) (fun hb => ?_) | refine uS 23 (fun hb => ?_) (fun hb => ?_))) | refine uC ?_ | refine kcp rfl (fun hc => ?_) (fun hc => ?_) | refine kcn rfl (fun hc => ?_) (fun hc => ?_) | refine kcb rfl (fun hc => ?_) (fun hc => ?_) | refine kcc rfl (fun hc => ?_) (fun hc => ?_) | fail)
 all_goals first | (exfalso; omega) | ((first | exact Fin.q Try.results77 (.cons (.tmp rfl) .nil) [] | refine Fin.q Try.results77 (.cons (.tmp rfl) .nil) [] (hr := (.t ?_)) | refine Fin.mkv (rs := _) Try.results77 (.cons (.tmp rfl) .nil) [] (by decide) rfl ?_ ?_ ?_ <;> repeat' (skip; first | exact .nil | refine .cons rfl ?_ ?_ | refine .cons ?_ ?_ | refine .row ?_ | refine .rset ?_ | refine .box ?_ | exact .gone | refine .aggL ?_ | refine .tupL ?_ | refine .old rfl ?_ | refine .new rfl rfl rfl ?_ | exact .nl | exact .optr rfl | exact .nptr rfl rfl rfl | refine .t ?_ | exact .any _ | rfl)))
 all_goals exact poke_map e1
theorem mall_c (k n : Nat) (l : List Int) (hn : l.length = n) (h0 : 0 < n) (hm : n ≤ 1048576) : Cio Try.prog 47 [.ptr 0 0] [mB k n, mR k l] (fU l) [mB k n, mR k l] := by
 have c1 := mmade_c k n l hn h0
 have e2 : (l.map tU).length = l.length := List.length_map _
 have c2 := cloneU_c l (by omega)
 refine Cio.enter' Try.func47 rfl Try.ntmps47 rfl qM ?_
 repeat' (first | ((with_reducible refine kAL ?_); (first | (refine kL 2602 rfl ?_; first | refine uI [0, 1] (c1) ?_) | (refine kL 2634 rfl ?_; first | refine uK (c2) ?_) | refine uA ?_)) | refine uC ?_ | refine kcp rfl (fun hc => ?_) (fun hc => ?_) | refine kcn rfl (fun hc => ?_) (fun hc => ?_) | refine kcb rfl (fun hc => ?_) (fun hc => ?_) | refine kcc rfl (fun hc => ?_) (fun hc => ?_) | fail)
 all_goals first | (exfalso; omega) | ((first | exact Fin.q Try.results47 (.cons (.tmp rfl) .nil) [] | refine Fin.q Try.results47 (.cons (.tmp rfl) .nil) [] (hr := (.t ?_)) | refine Fin.mkv (rs := _) Try.results47 (.cons (.tmp rfl) .nil) [] (by decide) rfl ?_ ?_ ?_ <;> repeat' (skip; first | exact .nil | refine .cons rfl ?_ ?_ | refine .cons ?_ ?_ | refine .row ?_ | refine .rset ?_ | refine .box ?_ | exact .gone | refine .aggL ?_ | refine .tupL ?_ | refine .old rfl ?_ | refine .new rfl rfl rfl ?_ | exact .nl | exact .optr rfl | exact .nptr rfl rfl rfl | refine .t ?_ | exact .any _ | rfl)))
theorem mall_n : Cd Try.prog 47 [pnil] .nl [] := by
 have c1 := mmade_n
 refine Cd.enter' Try.func47 rfl Try.ntmps47 rfl ?_
 repeat' (first | ((with_reducible refine kAL ?_); (first | (refine kL 2602 rfl ?_; first | refine uK (c1) ?_) | refine uA ?_)) | refine uC ?_ | refine kcp rfl (fun hc => ?_) (fun hc => ?_) | refine kcn rfl (fun hc => ?_) (fun hc => ?_) | refine kcb rfl (fun hc => ?_) (fun hc => ?_) | refine kcc rfl (fun hc => ?_) (fun hc => ?_) | fail)
 all_goals first | (exfalso; omega) | ((first | exact Fin.q Try.results47 (.cons (.tmp rfl) .nil) [] | refine Fin.q Try.results47 (.cons (.tmp rfl) .nil) [] (hr := (.t ?_)) | refine Fin.mkv (rs := _) Try.results47 (.cons (.tmp rfl) .nil) [] (by decide) rfl ?_ ?_ ?_ <;> repeat' (skip; first | exact .nil | refine .cons rfl ?_ ?_ | refine .cons ?_ ?_ | refine .row ?_ | refine .rset ?_ | refine .box ?_ | exact .gone | refine .aggL ?_ | refine .tupL ?_ | refine .old rfl ?_ | refine .new rfl rfl rfl ?_ | exact .nl | exact .optr rfl | exact .nptr rfl rfl rfl | refine .t ?_ | exact .any _ | rfl)))
end
section
def okW (l : List DWait) : Prop := l.length ≤ 2932031007402 ∧ ∀ w ∈ l, w.cases.length ≤ 5864062014805
theorem okW.at {l : List DWait} (h : okW l) {q : Nat} {a : DWait} (ha : l[q]? = some a) : a.cases.length ≤ 5864062014805 := h.2 a (List.mem_of_getElem? ha)
end
section
end
section
attribute [local irreducible] AL AW RG Fin C Cd Cio thenQ blockQ retQ
set_option maxRecDepth 100000
theorem DCase_ext {a b : DCase} (h : a.dir = b.dir ∧ a.handle = b.handle ∧ a.value = b.value) : a = b := by
 obtain ⟨a1, a2, a3⟩ := a; obtain ⟨b1, b2, b3⟩ := b; simp only at h; rw [h.1, h.2.1, h.2.2]
theorem cases_c (a b : List DCase) (ha : a.length ≤ 1152921504606846976) : Cd Try.prog 85 [.ln (a.map tCs), .ln (b.map tCs)] (bo (decide (a = b))) [] := by
 have h1 : (a.map tCs).length = a.length := List.length_map _
 have h2 : (b.map tCs).length = b.length := List.length_map _
 refine Cd.enter' Try.func85 rfl Try.ntmps85 rfl ?_
 repeat' (first | refine uA ?_ | ((with_reducible refine kRG ?_); (first | (refine kR 3241 rfl ?_; first | refine R_nes rfl rfl 101 101 _ _ rfl rfl rfl (by kernel_rfl) (fun w => eqs101 9998 _ _ _ _ _ _ w) (by first | exact not_dec_true (by first | (simp only [and_true]; omega) | (simp only [and_true]; done) | omega) | exact not_dec_false (by first | (simp only [and_true]; omega) | (simp only [and_true]; done) | omega) | rfl) ?_) | refine uR ?_)) | refine uC ?_ | refine kcp rfl (fun hc => ?_) (fun hc => ?_) | refine kcn rfl (fun hc => ?_) (fun hc => ?_) | refine kcb rfl (fun hc => ?_) (fun hc => ?_) | refine kcc rfl (fun hc => ?_) (fun hc => ?_) | refine AW.drawU (id := 6) mixed 0 qR ?_ | fail)
 ·refine Fin.q Try.results85 (.cons (.tmp rfl) .nil) [] (hr := (.t ?_))
  have : a ≠ b := by rintro rfl; exact hc rfl
  simp [this]
 ·refine AW.loopP (fun (i : Nat) => ∀ j, j < i → a.getD j default = b.getD j default) (fun (i : Nat) => (pu (pu (pu (pu (pu (fun _ => .any) 0 (.ln (a.map tCs))) 1 (.ln (b.map tCs))) 4 (bo false)) 12 (i64 (a.map tCs).length)) 13 (i64 i))) (fun (i : Nat) => []) (fun (i : Nat) => a.length + 1 - i) (0) ?_ ?_ ?_
  ·intro j hj; omega
  ·exact Wk.cq 0
  ·intro i hi
   repeat' (first | refine uA ?_ | ((with_reducible refine kRG ?_); (first | (refine kR 1958 rfl ?_; first | refine R_idx rfl rfl 61 _ _ rfl ud61 inf101 (by decide) (by first | exact .inl rfl | exact .inr rfl) rfl (by first | omega | (simp <;> fail) | (simp; omega)) _ (by first | with_reducible exact Int.toNat_natCast _ | exact rfl) (by first | exact map_get (by assumption) | assumption | exact map_get (get_D (x := (default : DCase)) (by omega))) rfl (cs' := [_, _, _]) rfl ?_) | (refine kR 3234 rfl ?_; first | refine R_load_rp_agg rfl rfl 101 _ rfl ud101 rfl inf101 rfl rfl (by first | exact map_get (by assumption) | assumption | exact map_get (get_D (x := (default : DCase)) (by omega))) (us' := [_, _, _]) rfl rfl ?_) | (refine kR 3241 rfl ?_; first | refine R_nes rfl rfl 101 101 _ _ rfl rfl rfl (by kernel_rfl) (fun w => eqs101 9998 _ _ _ _ _ _ w) (by first | exact not_dec_true (by first | (simp only [and_true]; omega) | (simp only [and_true]; done) | omega) | exact not_dec_false (by first | (simp only [and_true]; omega) | (simp only [and_true]; done) | omega) | rfl) ?_) | refine uR ?_)) | refine uC ?_ | refine kcp rfl (fun hc => ?_) (fun hc => ?_) | refine kcn rfl (fun hc => ?_) (fun hc => ?_) | refine kcb rfl (fun hc => ?_) (fun hc => ?_) | refine kcc rfl (fun hc => ?_) (fun hc => ?_) | refine AW.drawU (id := 6) mixed 0 qR ?_ | fail)
   ·refine Fin.q Try.results85 (.cons (.tmp rfl) .nil) [] (hr := (.t ?_))
    have : a ≠ b := by
     rintro rfl; exact absurd hc (by simp)
    simp [this]
   ·refine ⟨i + 1, fun j hj => ?_, by omega, ?_⟩
    ·by_cases e : j = i
     ·subst e; exact DCase_ext (by simpa using hc)
     ·exact hi j (by omega)
    ·exact Wk.cq 0
   ·refine Fin.q Try.results85 (.cons (.tmp rfl) .nil) [] (hr := (.t ?_))
    have : a = b := all_eq (z := default) (by omega) fun j hj => hi j (by omega)
    simp [this]
end
section
attribute [local irreducible] AL AW RG Fin C Cd Cio thenQ blockQ retQ
set_option maxRecDepth 100000
end
section
attribute [local irreducible] AL AW RG Fin C Cd Cio thenQ blockQ retQ
set_option maxRecDepth 100000
end
section
attribute [local irreducible] AL AW RG Fin C Cd Cio thenQ blockQ retQ
set_option maxRecDepth 100000
end
end Go.Proofs.Ytnfbggpkiekpdaa
namespace Go.Proofs.Ytnfbggpkiekpdaa
set_option linter.unusedVariables false
set_option linter.unusedSimpArgs false
set_option linter.unnecessarySimpa false
variable {α : Type} {key : α → Int}
def srtd (key : α → Int) (l : List α) : Prop := l.Pairwise fun a b => key a ≤ key b
def SE (key : α → Int) (l L : List α) : Prop := ∀ k : Int, L.filter (fun x => decide (key x = k)) = l.filter (fun x => decide (key x = k))
theorem SE.refl (l : List α) : SE key l l := fun _ => rfl
theorem SE.trans {a b c : List α} (h : SE key a b) (k : SE key b c) : SE key a c := fun i => (k i).trans (h i)
theorem SE.symm {a b : List α} (h : SE key a b) : SE key b a := fun i => (h i).symm
theorem SE.append {a b c d : List α} (h : SE key a b) (k : SE key c d) : SE key (a ++ c) (b ++ d) := fun i => by rw [List.filter_append, List.filter_append, h i, k i]
def seg (l : List α) (a b : Nat) : List α := (l.drop a).take (b - a)
def blk (key : α → Int) (l : List α) (bs a b : Nat) : Prop := ∀ q, a ≤ q → q < b → srtd key (seg l (q * bs) (q * bs + bs))
end Go.Proofs.Ytnfbggpkiekpdaa
namespace Go.Proofs.Ytnfbggpkiekpdaa
open Go.RowKit
set_option linter.unusedVariables false
set_option linter.unusedSimpArgs false
set_option linter.unnecessarySimpa false
set_option maxRecDepth 100000
set_option maxHeartbeats 64000000
section
attribute [local irreducible] AL AW RG Fin C Cd Cio thenQ blockQ retQ
set_option maxRecDepth 100000
def CmpV (g : AV) (key : Int → Int) (l : List Int) : Prop := ∀ x ∈ l, ∀ y ∈ l, ∃ c : Int, (c < 0 ↔ key x < key y) ∧ CV Try.prog g [i64 x, i64 y] (i64 c) []
theorem CmpV.mono {g : AV} {key : Int → Int} {l m : List Int} (h : CmpV g key l) (k : ∀ x ∈ m, x ∈ l) : CmpV g key m := fun x hx y hy => h x (k x hx) y (k y hy)
end
section
attribute [local irreducible] AL AW RG Fin C Cd Cio thenQ blockQ retQ
set_option maxRecDepth 100000
end
section
attribute [local irreducible] AL AW RG Fin C Cd Cio thenQ blockQ retQ
set_option maxRecDepth 100000
section
variable (f : FuncId) (fi cap : List AV) (key : Int → Int) (hup : upB (keepG 1) (.fn (.func f) fi cap) = .fn (.func f) fi cap) (hps : ∀ heap sel, Pass heap sel (.fn (.func f) fi cap) (.fn (.func f) fi cap)) (k : Nat)
end
end
section
attribute [local irreducible] AL AW RG Fin C Cd Cio thenQ blockQ retQ
set_option maxRecDepth 100000
end
section
attribute [local irreducible] AL AW RG Fin C Cd Cio thenQ blockQ retQ
set_option maxRecDepth 100000
end
section
attribute [local simp] putW_len cutW_len
def k8 : List DCase := [⟨2, 8, 0⟩]
def v0 : List DWait := [w0, w0, w0]
def v1 : List DWait := [w0, w0, ⟨true, 1, 4, k8⟩]
def v2 : List DWait := [⟨true, 2, 5, k8⟩, w0, ⟨true, 1, 4, k8⟩]
def v3 : List DWait := [⟨true, 2, 5, k8⟩, w0, w0]
end
section
attribute [local irreducible] AL AW RG Fin C Cd Cio thenQ blockQ retQ
set_option maxRecDepth 100000
structure OS where
 q : Nat
 k : Nat
 n : Nat
 O : List Int
end
section
attribute [local irreducible] AL AW RG Fin C Cd Cio thenQ blockQ retQ
set_option maxRecDepth 100000
attribute [local simp] putW_len cutW_len
end
section
attribute [local irreducible] AL AW RG Fin C Cd Cio thenQ blockQ retQ
set_option maxRecDepth 100000
end
section
attribute [local irreducible] AL AW RG Fin C Cd Cio thenQ blockQ retQ
set_option maxRecDepth 100000
attribute [local simp] putW_len cutW_len
structure DG where
 c : DChan
 l : List DWait
 r : Rst
 told : List DTold
 deriving DecidableEq
end
section
attribute [local irreducible] AL AW RG Fin C Cd Cio thenQ blockQ retQ
set_option maxRecDepth 100000
attribute [local simp] putW_len cutW_len
end
section
attribute [local irreducible] AL AW RG Fin C Cd Cio thenQ blockQ retQ
set_option maxRecDepth 100000
attribute [local simp] putW_len cutW_len
end
section
attribute [local irreducible] AL AW RG Fin C Cd Cio thenQ blockQ retQ
set_option maxRecDepth 100000
attribute [local simp] putW_len cutW_len
structure SG where
 c : DChan
 l : List DWait
 e : Int
 told : List DTold
 deriving DecidableEq
structure ShS where
 q : Nat
 k : Nat
 R : List DWait
 T : List DTold
def x1 : List DWait := [⟨true, 0, 3, [⟨2, 8, 0⟩]⟩]
def y1 : DChan := ⟨1, 0, true, false, []⟩
end
section
attribute [local irreducible] AL AW RG Fin C Cd Cio thenQ blockQ retQ
set_option maxRecDepth 100000
attribute [local simp] putW_len cutW_len
end
section
attribute [local irreducible] AL AW RG Fin C Cd Cio thenQ blockQ retQ
set_option maxRecDepth 100000
structure OnS where
 j : Nat
 k : Nat
 n : Nat
 M : List Int
 put : Bool
end
section
attribute [local irreducible] AL AW RG Fin C Cd Cio thenQ blockQ retQ
set_option maxRecDepth 100000
attribute [local simp] putW_len cutW_len
end
end Go.Proofs.Ytnfbggpkiekpdaa
namespace Go.Proofs.Ytnfbggpkiekpdaa
set_option linter.unusedVariables false
set_option linter.unusedSimpArgs false
set_option linter.unnecessarySimpa false
end Go.Proofs.Ytnfbggpkiekpdaa
namespace Go.Proofs.Ytnfbggpkiekpdaa
open Go.RowKit
set_option linter.unusedVariables false
set_option linter.unusedSimpArgs false
set_option linter.unnecessarySimpa false
set_option maxRecDepth 100000
set_option maxHeartbeats 64000000
section
def cH (h : DHall) (l : List DChan) : DHall := ⟨h.ticket, l, h.waits, h.done⟩
structure okQ (h : DHall) (q : DReq) : Prop where
 a : sI q.arg
 v : sI q.value
 c : ∀ x ∈ q.cases, sCs x
 l : q.cases.length ≤ 5864062014805
 t : -9223372036854775808 ≤ h.ticket
 g : ∀ x ∈ h.chans, sI x.gen
end
section
attribute [local irreducible] AL AW RG Fin C Cd Cio thenQ blockQ retQ
set_option maxRecDepth 100000
structure okHl (h : DHall) : Prop where
 c : h.chans.length ≤ 2932031007402
 b : ∀ x ∈ h.chans, x.buf.length ≤ 17592186043904
 w : okW h.waits
 d : h.done.length ≤ 4398046511104
structure okHc (h : DHall) : Prop where
 c : h.chans.length ≤ 1152921504606846976
 b : ∀ x ∈ h.chans, x.buf.length ≤ 1152921504606846976
 w : okW h.waits
 d : h.done.length ≤ 1152921504606846976
theorem okHl.hc {h : DHall} (k : okHl h) : okHc h := ⟨by have := k.c; omega, fun x hx => by have := k.b x hx; omega, k.w, by have := k.d; omega⟩
end
section
structure Wq (l : List DWait) : Prop where
 s : ∀ w ∈ l, w.cases.length ≤ 3
 off : ∀ w ∈ l, w.on = false → w = w0
theorem Wq.set {l : List DWait} (h : Wq l) {t : Nat} {w : DWait} (h1 : w.cases.length ≤ 3) (h2 : w.on = false → w = w0) : Wq (l.set t w) :=
 ⟨fun x hx => by rcases List.mem_or_eq_of_mem_set hx with hx | rfl; exact h.s x hx; exact h1, fun x hx => by rcases List.mem_or_eq_of_mem_set hx with hx | rfl; exact h.off x hx; exact h2⟩
theorem Wq.cut {l : List DWait} (h : Wq l) (t : Int) : Wq (cutW l t) := by
 unfold cutW; split
 ·exact h.set (by decide) (fun _ => rfl)
 ·exact h
theorem Wq.put {l : List DWait} (h : Wq l) (t : Int) {w : DWait} (hw : w.cases.length ≤ 3) : Wq (putW l t w) := by
 unfold putW; split
 ·exact h.set hw (fun e => by cases e)
 ·exact h
structure HBd (k : Nat) (h : DHall) : Prop where
 tk : 0 ≤ h.ticket ∧ h.ticket ≤ k
 bl : ∀ x ∈ h.chans, x.buf.length ≤ k
 gn : ∀ x ∈ h.chans, 0 ≤ x.gen ∧ x.gen ≤ 4095
 w : Wq h.waits
theorem HBd.up {k k' : Nat} {h : DHall} (b : HBd k h) (hk : k ≤ k') : HBd k' h := ⟨⟨b.tk.1, by have := b.tk.2; omega⟩, fun x hx => Nat.le_trans (b.bl x hx) hk, b.gn, b.w⟩
theorem getD_mem {α : Type} {l : List α} {n : Nat} {d : α} (h : n < l.length) : l.getD n d ∈ l := by rw [List.getD_eq_getElem?_getD, List.getElem?_eq_getElem h]; exact List.getElem_mem h
structure Ln (p th : Nat) (h : DHall) : Prop where
 c : h.chans.length = p
 w : h.waits.length = th
 d : h.done.length = th
theorem HBd.ok {k p th : Nat} {h : DHall} (b : HBd k h) (l : Ln p th h) (hk : k ≤ 1000) (hp : p ≤ 1000) (ht : th ≤ 1000) : okHl h :=
 ⟨by rw [l.c]; omega, fun x hx => by have := b.bl x hx; omega, ⟨by rw [l.w]; omega, fun w hw => by have := b.w.s w hw; omega⟩, by rw [l.d]; omega⟩
theorem HBd.okQ {k : Nat} {h : DHall} (b : HBd k h) {q : DReq} (hq : sRq q) (hl : q.cases.length ≤ 5864062014805) : okQ h q :=
 ⟨hq.2.1, hq.2.2.1, hq.2.2.2.2.2, hl, by have := b.tk.1; omega, fun x hx => by have := b.gn x hx; unfold sI; omega⟩
end
end Go.Proofs.Ytnfbggpkiekpdaa
