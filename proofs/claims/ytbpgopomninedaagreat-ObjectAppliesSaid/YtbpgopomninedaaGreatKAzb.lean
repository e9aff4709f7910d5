/- Joined: XTSortO, XTSortOM. -/
import Derived.Test.YtbpgopomninedaaGreatKAg
import Derived.Test.YtbpgopomninedaaGreatKAza
import Derived.Test.YtbpgopomninedaaGreatKAc
import Derived.Test.YtbpgopomninedaaGreatKAi
namespace Go.Proofs.YtbpgopomninedaaGreat
open Go.RowKit
set_option linter.unusedVariables false
set_option linter.unusedSimpArgs false
set_option linter.unnecessarySimpa false
set_option maxRecDepth 100000
set_option maxHeartbeats 64000000
section
attribute [local irreducible] AL AW RG Fin C Cd Cio thenQ blockQ retQ
set_option maxRecDepth 100000
def CmpV_o (g : AV) (key : DOp → Int) (l : List DOp) : Prop := ∀ x ∈ l, ∀ y ∈ l, ∃ c : Int, (c < 0 ↔ key x < key y) ∧ CV Tryz.prog g [aOp x, aOp y] (i64 c) []
theorem CmpV_o.mono {g : AV} {key : DOp → Int} {l m : List DOp} (h : CmpV_o g key l) (k : ∀ x ∈ m, x ∈ l) : CmpV_o g key m := fun x hx y hy => h x (k x hx) y (k y hy)
theorem insert_c_o (f : FuncId) (fi cap : List AV) (key : DOp → Int) (l : List DOp) (k a b : Nat) (hab : a ≤ b) (hb : b ≤ l.length) (hl : l.length ≤ 1152921504606846976) (hg : CmpV_o (.fn (.func f) fi cap) key l)
  (hup : upB (keepG 1) (.fn (.func f) fi cap) = .fn (.func f) fi cap) :
  Cio Tryz.prog 127 [.sl 0 k l.length, i64 a, i64 b, .fn (.func f) fi cap] [.row k 38 8 (l.map tOp)] (.tup []) [.row k 38 8 ((srt key l a b).map tOp)] := by
 refine Cio.enter' Tryz.func127 rfl Tryz.ntmps127 rfl qM ?_
 repeat' (first | refine uA ?_ | refine uC ?_ | fail)
 refine AW.loopP (fun (x : Nat × List DOp) => (b ≤ x.1 ∧ x.1 ≤ b + 1 ∧ x.2 = srt key l a b) ∨ (a < x.1 ∧ x.1 ≤ b ∧ x.2 = srt key l a x.1)) (fun (x : Nat × List DOp) => (pu (pu (pu (pu (pu (fun _ => .any) 0 (.sl 0 k l.length)) 1 (i64 a)) 2 (i64 b)) 3 (.fn (.func f) fi cap)) 8 (i64 x.1))) (fun (x : Nat × List DOp) => [.row k 38 8 (x.2.map tOp)]) (fun (x : Nat × List DOp) => b + 1 - x.1) ((a + 1, l)) ?_ ?_ ?_
 ·by_cases h : a < b
  ·exact .inr ⟨by dsimp only; omega, by dsimp only; omega, (srt_one (l := l) (by omega)).symm⟩
  ·obtain rfl : a = b := by omega
   exact .inl ⟨by dsimp only; omega, by dsimp only; omega, srt_same.symm⟩
 ·exact Wk.cq 1
 ·rintro ⟨i, M⟩ hi
  dsimp only at hi ⊢
  by_cases hib : i < b
  ·obtain ⟨h1, h2, h3⟩ : a < i ∧ i ≤ b ∧ M = srt key l a i := by
    rcases hi with hi | hi
    ·omega
    ·exact hi
   obtain ⟨x, hx⟩ : ∃ x, l[i]? = some x := ⟨_, List.getElem?_eq_getElem (by omega)⟩
   obtain ⟨S, hS⟩ : ∃ S, isort key ((l.drop a).take (i - a)) = S := ⟨_, rfl⟩
   have hSl : S.length = i - a := by rw [← hS, isort_len, List.length_take, List.length_drop]; omega
   have hSs : srtd key S := by rw [← hS]; exact (isort_all _ _).1
   have hSm : ∀ z ∈ S, z ∈ l := fun z hz => by rw [← hS] at hz; exact List.mem_of_mem_drop (List.mem_of_mem_take (isort_mem.1 hz))
   have hxl : x ∈ l := List.mem_of_getElem? hx
   have hnew : srt key l a (i + 1) = l.take a ++ insS key x S ++ l.drop (i + 1) := by unfold srt; rw [seg_next (by omega) hx, isort_next, hS]
   have hM : M = l.take a ++ S ++ x :: l.drop (i + 1) := by rw [h3, ← drop_next hx, ← hS]; rfl
   clear h3 hi
   have hta : (l.take a).length = a := by rw [List.length_take]; omega
   repeat' (first | refine uA ?_ | refine uC ?_ | fail)
   all_goals first | (exfalso; omega) | skip
   refine AW.loopP (fun (y : Int × List DOp × List DOp × List DOp) => y.1 = a + y.2.2.1.length ∧ y.2.2.1 ++ y.2.2.2 = S ∧ (∀ z ∈ y.2.2.2, key x < key z) ∧ y.2.1 = l.take a ++ y.2.2.1 ++ x :: (y.2.2.2 ++ l.drop (i + 1))) (fun (y : Int × List DOp × List DOp × List DOp) => (pu (pu (pu (pu (pu (pu (fun _ => .any) 0 (.sl 0 k l.length)) 1 (i64 a)) 2 (i64 b)) 3 (.fn (.func f) fi cap)) 8 (i64 i)) 9 (i64 y.1))) (fun (y : Int × List DOp × List DOp × List DOp) => [.row k 38 8 (y.2.1.map tOp)]) (fun (y : Int × List DOp × List DOp × List DOp) => y.2.2.1.length) (((i : Int), M, S, [])) ?_ ?_ ?_
   ·exact ⟨by dsimp only; omega, by simp, by simp, by simpa using hM⟩
   ·exact Wk.cq 1
   ·rintro ⟨j, M, S1, S2⟩ ⟨h4, h5, h6, h7⟩
    dsimp only at h4 h5 h6 h7 ⊢
    have hS12 : S1.length + S2.length = i - a := by rw [← hSl, ← h5, List.length_append]
    have hMl : M.length = l.length := by rw [h7]; simp only [List.length_append, List.length_cons, List.length_drop, hta]; omega
    have hMt : (M.map tOp).length = l.length := by rw [List.length_map, hMl]
    have hP : (l.take a ++ S1).length = j.toNat := by rw [List.length_append, hta]; omega
    have hxj : M[j.toNat]? = some x := by rw [h7, List.getElem?_append_right (by omega), hP, Nat.sub_self]; rfl
    by_cases hS1 : S1 = []
    ·subst hS1
     simp only [List.length_nil] at h4 hS12
     have hn2 : srt key l a (i + 1) = M := by rw [hnew, ← h5, insS_at (fun _ h => by simp at h) h6, h7]; simp
     repeat' (first | refine uA ?_ | refine uR ?_ | refine uC ?_ | refine AW.drawU (id := 4) mixed 2 qR ?_ | fail)
     all_goals first | (exfalso; omega) | skip
     refine ⟨(i + 1, M), .inr ⟨by dsimp only; omega, by dsimp only; omega, hn2.symm⟩, by dsimp only; omega, ?_⟩
     exact Wk.cq 1
    ·obtain ⟨S0, y, rfl⟩ : ∃ S0 y, S1 = S0 ++ [y] := ⟨_, _, (List.dropLast_concat_getLast hS1).symm⟩
     have hyS : y ∈ S := by rw [← h5]; simp
     have hyl := hSm y hyS
     simp only [List.length_append, List.length_singleton] at h4 hS12
     have hP0 : (l.take a ++ S0).length = (j - 1).toNat := by rw [List.length_append, hta]; omega
     have h8 : M = (l.take a ++ S0) ++ y :: x :: (S2 ++ l.drop (i + 1)) := by rw [h7]; simp
     have hyj : M[(j - 1).toNat]? = some y := by rw [h8, List.getElem?_append_right (by omega), hP0, Nat.sub_self]; rfl
     obtain ⟨c, hc0, hcv⟩ := hg x hxl y hyl
     by_cases hk : key x < key y
     ·have hcn := hc0.2 hk
      have hsw : (M.set j.toNat y).set (j - 1).toNat x = l.take a ++ S0 ++ x :: y :: (S2 ++ l.drop (i + 1)) := by rw [h8]; exact swap_at (by omega) (by omega)
      have hyj2 : (M.set j.toNat y)[(j - 1).toNat]? = some y := by rw [List.getElem?_set_ne (by omega), hyj]
      repeat' (first | refine uA ?_ | ((with_reducible refine kRG ?_); (first | refine R_callv rfl rfl rfl rfl (hcv) (acc := _) rfl (fun h' hh => by ((repeat (first | exact .nil | refine .cons ?_ ?_ | exact .t _ | refine .aggL ?_)); (first | done | fail))) rfl rfl ?_ | refine uR ?_)) | refine uC ?_ | refine AW.drawU (id := 4) mixed 2 qR ?_ | refine AW.drawU (id := 6) mixed 0 qR ?_ | fail)
      all_goals first | (exfalso; omega) | skip
      rw [hsw]
      refine ⟨(j - 1, l.take a ++ S0 ++ x :: y :: (S2 ++ l.drop (i + 1)), S0, y :: S2), ⟨by dsimp only; omega, by rw [← h5]; simp, fun z hz => ?_, rfl⟩, by simp, ?_⟩
      ·rcases List.mem_cons.1 hz with rfl | hz
       ·exact hk
       ·exact h6 z hz
      ·exact Wk.cq 1
     ·have hcn : ¬ c < 0 := fun h => hk (hc0.1 h)
      have hn2 : srt key l a (i + 1) = M := by
       rw [hnew, ← h5, insS_at (fun z hz => ?_) h6, h7]
       ·simp
       ·rw [← h5, List.append_assoc] at hSs
        have hp := (List.pairwise_append.1 hSs).2.2
        rcases List.mem_append.1 hz with hz | hz
        ·have := hp z hz y (by simp); omega
        ·simp at hz; subst hz; exact hk
      repeat' (first | refine uA ?_ | ((with_reducible refine kRG ?_); (first | refine R_callv rfl rfl rfl rfl (hcv) (acc := _) rfl (fun h' hh => by ((repeat (first | exact .nil | refine .cons ?_ ?_ | exact .t _ | refine .aggL ?_)); (first | done | fail))) rfl rfl ?_ | refine uR ?_)) | refine uC ?_ | refine AW.drawU (id := 4) mixed 2 qR ?_ | fail)
      all_goals first | (exfalso; omega) | skip
      refine ⟨(i + 1, M), .inr ⟨by dsimp only; omega, by dsimp only; omega, hn2.symm⟩, by dsimp only; omega, ?_⟩
      exact Wk.cq 1
  ·have hM : M = srt key l a b := by
    rcases hi with ⟨_, _, h⟩ | ⟨_, h2, h⟩
    ·exact h
    ·obtain rfl : i = b := by omega
     exact h
   subst hM
   repeat' (first | refine uA ?_ | refine uC ?_ | fail)
   all_goals first | (exfalso; omega) | (exact Fin.q Tryz.results127 .nil [])
theorem swp_of_o {l : List DOp} {i j : Nat} {x y : DOp} (hx : l[i]? = some x) (hy : l[j]? = some y) : (l.set i y).set j x = swp l i j := by
 unfold swp; rw [List.getD_eq_getElem?_getD, List.getD_eq_getElem?_getD, hx, hy]; rfl
theorem swapRange_c_o (g : AV) (hup : upB (keepG 1) g = g) (l : List DOp) (k a b n : Nat) (hab : a + n ≤ b) (hb : b + n ≤ l.length) (hl : l.length ≤ 1152921504606846976) :
  Cio Tryz.prog 165 [.sl 0 k l.length, i64 a, i64 b, i64 n, g] [.row k 38 8 (l.map tOp)] (.tup []) [.row k 38 8 ((swr l a b n).map tOp)] := by
 refine Cio.enter' Tryz.func165 rfl Tryz.ntmps165 rfl qM ?_
 repeat' (first | refine uA ?_ | refine uC ?_ | fail)
 refine AW.loopP (fun (x : Nat × List DOp) => x.1 ≤ n ∧ x.2.length = l.length ∧ swr x.2 (a + x.1) (b + x.1) (n - x.1) = swr l a b n) (fun (x : Nat × List DOp) => (pu (pu (pu (pu (pu (fun _ => .any) 0 (.sl 0 k l.length)) 1 (i64 a)) 2 (i64 b)) 3 (i64 n)) 10 (i64 x.1))) (fun (x : Nat × List DOp) => [.row k 38 8 (x.2.map tOp)]) (fun (x : Nat × List DOp) => n - x.1) ((0, l)) ?_ ?_ ?_
 ·exact ⟨Nat.zero_le _, rfl, rfl⟩
 ·exact Wk.cq 1
 ·rintro ⟨i, M⟩ ⟨h1, h2, h3⟩
  dsimp only at h1 h2 h3 ⊢
  have hMt : (M.map tOp).length = l.length := by rw [List.length_map, h2]
  by_cases hi : i < n
  ·have e1 : ((a : Int) + (i : Int)).toNat = a + i := by omega
   have e2 : ((b : Int) + (i : Int)).toNat = b + i := by omega
   obtain ⟨x, hx⟩ : ∃ x, M[((a : Int) + (i : Int)).toNat]? = some x := ⟨_, List.getElem?_eq_getElem (by omega)⟩
   obtain ⟨y, hy⟩ : ∃ y, M[((b : Int) + (i : Int)).toNat]? = some y := ⟨_, List.getElem?_eq_getElem (by omega)⟩
   have hy2 : (M.set ((a : Int) + (i : Int)).toNat y)[((b : Int) + (i : Int)).toNat]? = some y := by rw [List.getElem?_set_ne (by omega), hy]
   have hs := swp_of_o hx hy
   rw [show n - i = (n - (i + 1)) + 1 by omega, swr, ← e1, ← e2, ← hs, e1, e2] at h3
   skip
   repeat' (first | refine uA ?_ | refine uR ?_ | refine uC ?_ | refine AW.drawU (id := 3) mixed 0 qR ?_ | fail)
   all_goals first | (exfalso; omega) | skip
   refine ⟨(i + 1, (M.set ((a : Int) + (i : Int)).toNat y).set ((b : Int) + (i : Int)).toNat x), ⟨by dsimp only; omega, by simp [h2], by dsimp only; rw [← h3, e1, e2]; rfl⟩, by dsimp only; omega, ?_⟩
   exact Wk.cq 1
  ·obtain rfl : i = n := by omega
   rw [Nat.sub_self, swr] at h3
   subst h3
   repeat' (first | refine uA ?_ | refine uC ?_ | fail)
   all_goals first | (exfalso; omega) | (exact Fin.q Tryz.results165 .nil [])
theorem rotate_c_o (f : FuncId) (fi cap : List AV) (hup : upB (keepG 1) (.fn (.func f) fi cap) = .fn (.func f) fi cap) (hps : ∀ heap sel, Pass heap sel (.fn (.func f) fi cap) (.fn (.func f) fi cap)) (l : List DOp) (k a m b : Nat) (ham : a < m) (hmb : m < b) (hb : b ≤ l.length) (hl : l.length ≤ 1152921504606846976) :
  Cio Tryz.prog 153 [.sl 0 k l.length, i64 a, i64 m, i64 b, .fn (.func f) fi cap] [.row k 38 8 (l.map tOp)] (.tup []) [.row k 38 8 ((rot l a m b).map tOp)] := by
 refine Cio.enter' Tryz.func153 rfl Tryz.ntmps153 rfl qM ?_
 repeat' (first | refine uA ?_ | refine uC ?_ | fail)
 refine AW.loopP (fun (x : List DOp × List DOp × List DOp × List DOp × List DOp) => x.1 = x.2.1 ++ x.2.2.1 ++ x.2.2.2.1 ++ x.2.2.2.2 ∧ x.2.1 ++ x.2.2.2.1 ++ x.2.2.1 ++ x.2.2.2.2 = rot l a m b ∧ x.2.1.length + x.2.2.1.length = m ∧ 0 < x.2.2.1.length ∧ 0 < x.2.2.2.1.length ∧ x.1.length = l.length) (fun (x : List DOp × List DOp × List DOp × List DOp × List DOp) => (pu (pu (pu (pu (pu (fun _ => .any) 0 (.sl 0 k l.length)) 2 (i64 m)) 4 (.fn (.func f) fi cap)) 10 (i64 (x.2.2.1.length : Nat))) 11 (i64 (x.2.2.2.1.length : Nat)))) (fun (x : List DOp × List DOp × List DOp × List DOp × List DOp) => [.row k 38 8 (x.1.map tOp)]) (fun (x : List DOp × List DOp × List DOp × List DOp × List DOp) => x.2.2.1.length + x.2.2.2.1.length) ((l, l.take a, seg l a m, seg l m b, l.drop b)) ?_ ?_ ?_
 ·refine ⟨split4 (by omega) (by omega), rfl, ?_, ?_, ?_, rfl⟩
  ·dsimp only; rw [List.length_take, seg_len (by omega)]; omega
  ·dsimp only; rw [seg_len (by omega)]; omega
  ·dsimp only; rw [seg_len (by omega)]; omega
 ·rw [show ((seg l a m).length : Int) = (m : Int) - a by rw [seg_len (by omega)]; omega, show ((seg l m b).length : Int) = (b : Int) - m by rw [seg_len (by omega)]; omega]
  exact Wk.cq 1
 ·rintro ⟨M, P, X, Y, S⟩ ⟨h1, h2, h3, h4, h5, h6⟩
  dsimp only at h1 h2 h3 h4 h5 h6 ⊢
  have hML : P.length + X.length + Y.length + S.length = l.length := by rw [← h6, h1]; simp only [List.length_append]
  have hMt : (M.map tOp).length = l.length := by rw [List.length_map, h6]
  obtain ⟨p, hp⟩ : ∃ p, p = P.length := ⟨_, rfl⟩
  have ep : (p : Int) = (m : Int) - (X.length : Nat) := by omega
  rcases Nat.lt_trichotomy X.length Y.length with hxy | hxy | hxy
  ·-- i < j
   obtain ⟨q, hq⟩ : ∃ q, q = Y.length - X.length := ⟨_, rfl⟩
   have hY : Y = Y.take q ++ Y.drop q := (List.take_append_drop _ _).symm
   have ly1 : (Y.take q).length = q := by rw [List.length_take]; omega
   have ly2 : (Y.drop q).length = X.length := by rw [List.length_drop]; omega
   have c1 := swapRange_c_o (.fn (.func f) fi cap) hup M k p (m + q) X.length (by omega) (by omega) (by omega)
   have e1 : swr M p (m + q) X.length = P ++ Y.drop q ++ Y.take q ++ (X ++ S) := by
    have := swr_at (P := P) (X := X) (M := Y.take q) (Y := Y.drop q) (S := S) (a := p) (b := m + q) (n := X.length) hp (by omega) rfl ly2.symm
    rw [h1]
    conv => lhs; rw [hY]
    rw [← List.append_assoc (P ++ X), this]; simp [List.append_assoc]
   rw [e1, h6, ep, show ((m + q : Nat) : Int) = (m : Int) + (Y.length : Nat) - (X.length : Nat) by omega] at c1
   repeat' (first | ((with_reducible refine kAL ?_); (first | refine uI [0] (c1) ?_ | refine uA ?_)) | refine uC ?_ | fail)
   all_goals first | (exfalso; omega) | skip
   refine ⟨(P ++ Y.drop q ++ Y.take q ++ (X ++ S), P, Y.drop q, Y.take q, X ++ S), ⟨rfl, ?_, by dsimp only; omega, by dsimp only; omega, by dsimp only; omega, ?_⟩, by dsimp only; omega, ?_⟩
   ·dsimp only; rw [← h2]; conv => rhs; rw [hY]
    simp [List.append_assoc]
   ·dsimp only; simp only [List.length_append, ly1, ly2]; omega
   ·dsimp only; rw [ly1, ly2, show (q : Int) = (Y.length : Nat) - (X.length : Nat) by omega]
    exact Wk.cq 1
  ·-- i = j
   have c1 := swapRange_c_o (.fn (.func f) fi cap) hup M k p m X.length (by omega) (by omega) (by omega)
   have e1 : swr M p m X.length = rot l a m b := by
    have := swr_at (P := P) (X := X) (M := []) (Y := Y) (S := S) (a := p) (b := m) (n := X.length) hp (by simp; omega) rfl hxy
    rw [h1, ← h2]
    simpa using this
   rw [e1, h6, ep] at c1
   repeat' (first | ((with_reducible refine kAL ?_); (first | refine uI [0] (c1) ?_ | refine uA ?_)) | refine uC ?_ | fail)
   all_goals first | (exfalso; omega) | (exact Fin.q Tryz.results153 .nil [])
  ·-- i > j
   obtain ⟨q, hq⟩ : ∃ q, q = Y.length := ⟨_, rfl⟩
   have hX : X = X.take q ++ X.drop q := (List.take_append_drop _ _).symm
   have lx1 : (X.take q).length = q := by rw [List.length_take]; omega
   have lx2 : (X.drop q).length = X.length - Y.length := by rw [List.length_drop]; omega
   have c1 := swapRange_c_o (.fn (.func f) fi cap) hup M k p m Y.length (by omega) (by omega) (by omega)
   have e1 : swr M p m Y.length = (P ++ Y) ++ X.drop q ++ X.take q ++ S := by
    have := swr_at (P := P) (X := X.take q) (M := X.drop q) (Y := Y) (S := S) (a := p) (b := m) (n := Y.length) hp (by omega) (by omega) rfl
    rw [h1]
    conv => lhs; rw [hX]
    rw [← List.append_assoc P, this]
   rw [e1, h6, ep] at c1
   repeat' (first | ((with_reducible refine kAL ?_); (first | refine uI [0] (c1) ?_ | refine uA ?_)) | refine uC ?_ | fail)
   all_goals first | (exfalso; omega) | skip
   refine ⟨((P ++ Y) ++ X.drop q ++ X.take q ++ S, P ++ Y, X.drop q, X.take q, S), ⟨rfl, ?_, ?_, by dsimp only; omega, by dsimp only; omega, ?_⟩, by dsimp only; omega, ?_⟩
   ·dsimp only; rw [← h2]; conv => rhs; rw [hX]
    simp [List.append_assoc]
   ·dsimp only; rw [List.length_append, lx2]; omega
   ·dsimp only; simp only [List.length_append, lx1, lx2]; omega
   ·dsimp only; rw [lx1, lx2, show ((X.length - Y.length : Nat) : Int) = (X.length : Nat) - (Y.length : Nat) by omega, hq]
    exact Wk.cq 1
end
section
attribute [local irreducible] AL AW RG Fin C Cd Cio thenQ blockQ retQ
set_option maxRecDepth 100000
section
variable (f : FuncId) (fi cap : List AV) (key : DOp → Int) (hup : upB (keepG 1) (.fn (.func f) fi cap) = .fn (.func f) fi cap) (hps : ∀ heap sel, Pass heap sel (.fn (.func f) fi cap) (.fn (.func f) fi cap)) (k : Nat)
include hup in
theorem merge1_c_o (l : List DOp) (a m b : Nat) (ham : m = a + 1) (hmb : m < b) (hb : b ≤ l.length) (hl : l.length ≤ 1152921504606846976) (hg : CmpV_o (.fn (.func f) fi cap) key l) (hs : srtd key (seg l m b)) :
  Cio Tryz.prog 128 [.sl 0 k l.length, i64 a, i64 m, i64 b, .fn (.func f) fi cap] [.row k 38 8 (l.map tOp)] (.tup []) [.row k 38 8 ((srt key l a b).map tOp)] := by
 have hlt : (l.map tOp).length = l.length := List.length_map _
 obtain ⟨x, hx⟩ : ∃ x, l[a]? = some x := ⟨_, List.getElem?_eq_getElem (by omega)⟩
 have kx := kat_of (key := key) hx
 refine Cio.enter' Tryz.func128 rfl Tryz.ntmps128 rfl qM ?_
 repeat' (first | refine uA ?_ | refine uC ?_ | fail)
 all_goals first | (exfalso; omega) | skip
 refine AW.loopP (fun (z : Int × Int) => (m : Int) ≤ z.1 ∧ z.1 ≤ z.2 ∧ z.2 ≤ b ∧ ((m : Int) < z.1 → kat key l (z.1 - 1).toNat < kat key l a) ∧ (z.2 < b → kat key l a ≤ kat key l z.2.toNat)) (fun (z : Int × Int) => (pu (pu (pu (pu (pu (pu (pu (fun _ => .any) 0 (.sl 0 k l.length)) 1 (i64 a)) 2 (i64 m)) 3 (i64 b)) 4 (.fn (.func f) fi cap)) 10 (i64 z.1)) 11 (i64 z.2))) (fun (z : Int × Int) => [.row k 38 8 (l.map tOp)]) (fun (z : Int × Int) => (z.2 - z.1).toNat) (((m : Int), (b : Int))) ?_ ?_ ?_
 ·exact ⟨Int.le_refl _, by dsimp only; omega, Int.le_refl _, fun h => by dsimp only at h; omega, fun h => by dsimp only at h; omega⟩
 ·exact Wk.cq 1
 ·rintro ⟨i, j⟩ ⟨h1, h2, h3, h4, h5⟩
  dsimp only at h1 h2 h3 h4 h5 ⊢
  by_cases hij : i < j
  ·obtain ⟨y, hy⟩ : ∃ y, l[((i + j) / 2).toNat]? = some y := ⟨_, List.getElem?_eq_getElem (by omega)⟩
   have ky := kat_of (key := key) hy
   obtain ⟨c, hc0, hcv⟩ := hg y (List.mem_of_getElem? hy) x (List.mem_of_getElem? hx)
   by_cases hk : key y < key x
   ·have hcn := hc0.2 hk
    repeat' (first | ((with_reducible refine kAL ?_); (first | refine A_shr rfl rfl 97 97 _ _ rfl rfl rfl (by decide) (fdiv_lit (m := 2) rfl (by decide)) ?_ | refine uA ?_)) | ((with_reducible refine kRG ?_); (first | refine R_callv rfl rfl rfl rfl (hcv) (acc := _) rfl (fun h' hh => by ((repeat (first | exact .nil | refine .cons ?_ ?_ | exact .t _ | refine .aggL ?_)); (first | done | fail))) rfl rfl ?_ | refine uR ?_)) | refine uC ?_ | refine AW.drawU (id := 5) mixed 2 qR ?_ | fail)
    all_goals first | (exfalso; omega) | skip
    refine ⟨((i + j) / 2 + 1, j), ⟨by dsimp only; omega, by dsimp only; omega, h3, fun _ => ?_, h5⟩, by dsimp only; omega, ?_⟩
    ·dsimp only; rw [Int.add_sub_cancel, ky, kx]; exact hk
    ·exact Wk.cq 1
   ·have hcn : ¬ c < 0 := fun h => hk (hc0.1 h)
    repeat' (first | ((with_reducible refine kAL ?_); (first | refine A_shr rfl rfl 97 97 _ _ rfl rfl rfl (by decide) (fdiv_lit (m := 2) rfl (by decide)) ?_ | refine uA ?_)) | ((with_reducible refine kRG ?_); (first | refine R_callv rfl rfl rfl rfl (hcv) (acc := _) rfl (fun h' hh => by ((repeat (first | exact .nil | refine .cons ?_ ?_ | exact .t _ | refine .aggL ?_)); (first | done | fail))) rfl rfl ?_ | refine uR ?_)) | refine uC ?_ | refine AW.drawU (id := 5) mixed 2 qR ?_ | fail)
    all_goals first | (exfalso; omega) | skip
    refine ⟨(i, (i + j) / 2), ⟨h1, by dsimp only; omega, by dsimp only; omega, h4, fun _ => ?_⟩, by dsimp only; omega, ?_⟩
    ·dsimp only; rw [ky, kx]; omega
    ·exact Wk.cq 1
  ·obtain rfl : i = j := by omega
   obtain ⟨i, rfl⟩ : ∃ n : Nat, i = n := ⟨i.toNat, by omega⟩
   have hres : bub l a (i - (a + 1)) = srt key l a b := merge_one (by omega) (by omega) hb (by rw [← ham]; exact hs) (fun h => by have := h4 (by omega); rwa [show ((i : Int) - 1).toNat = i - 1 by omega] at this) (fun h => by have := h5 (by omega); rwa [Int.toNat_natCast] at this)
   repeat' (first | refine uA ?_ | refine uC ?_ | fail)
   all_goals first | (exfalso; omega) | skip
   refine AW.loopP (fun (z : Nat × List DOp) => z.1 + 1 ≤ i ∧ z.2.length = l.length ∧ bub z.2 z.1 (i - (z.1 + 1)) = srt key l a b) (fun (z : Nat × List DOp) => (pu (pu (pu (pu (fun _ => .any) 0 (.sl 0 k l.length)) 4 (.fn (.func f) fi cap)) 10 (i64 i)) 13 (i64 z.1))) (fun (z : Nat × List DOp) => [.row k 38 8 (z.2.map tOp)]) (fun (z : Nat × List DOp) => i - z.1) ((a, l)) ?_ ?_ ?_
   ·exact ⟨by dsimp only; omega, rfl, hres⟩
   ·exact Wk.cq 1
   ·rintro ⟨q, M⟩ ⟨g1, g2, g3⟩
    dsimp only at g1 g2 g3 ⊢
    have hMt : (M.map tOp).length = l.length := by rw [List.length_map, g2]
    by_cases hq : q + 1 < i
    ·have e1 : ((q : Int) + 1).toNat = q + 1 := by omega
     obtain ⟨x, hx⟩ : ∃ x, M[q]? = some x := ⟨_, List.getElem?_eq_getElem (by omega)⟩
     obtain ⟨y, hy⟩ : ∃ y, M[((q : Int) + 1).toNat]? = some y := ⟨_, List.getElem?_eq_getElem (by omega)⟩
     have hy2 : (M.set q y)[((q : Int) + 1).toNat]? = some y := by rw [List.getElem?_set_ne (by omega), hy]
     have hsw := swp_of_o hx hy
     rw [show i - (q + 1) = (i - (q + 1 + 1)) + 1 by omega, bub, show swp M q (q + 1) = swp M q ((q : Int) + 1).toNat by rw [e1], ← hsw] at g3
     skip
     repeat' (first | refine uA ?_ | refine uR ?_ | refine uC ?_ | refine AW.drawU (id := 11) mixed 0 qR ?_ | fail)
     all_goals first | (exfalso; omega) | skip
     refine ⟨(q + 1, (M.set q y).set ((q : Int) + 1).toNat x), ⟨by dsimp only; omega, by simp [g2], g3⟩, by dsimp only; omega, ?_⟩
     exact Wk.cq 1
    ·rw [show i - (q + 1) = 0 by omega, bub] at g3
     subst g3
     repeat' (first | refine uA ?_ | refine uC ?_ | fail)
     all_goals first | (exfalso; omega) | (exact Fin.q Tryz.results128 .nil [])
include hup in
theorem merge2_c_o (l : List DOp) (a m b : Nat) (ham : a + 1 < m) (hmb : b = m + 1) (hb : b ≤ l.length) (hl : l.length ≤ 1152921504606846976) (hg : CmpV_o (.fn (.func f) fi cap) key l) (hs : srtd key (seg l a m)) :
  Cio Tryz.prog 128 [.sl 0 k l.length, i64 a, i64 m, i64 b, .fn (.func f) fi cap] [.row k 38 8 (l.map tOp)] (.tup []) [.row k 38 8 ((srt key l a b).map tOp)] := by
 have hlt : (l.map tOp).length = l.length := List.length_map _
 obtain ⟨x, hx⟩ : ∃ x, l[m]? = some x := ⟨_, List.getElem?_eq_getElem (by omega)⟩
 have kx := kat_of (key := key) hx
 refine Cio.enter' Tryz.func128 rfl Tryz.ntmps128 rfl qM ?_
 repeat' (first | refine uA ?_ | refine uC ?_ | fail)
 all_goals first | (exfalso; omega) | skip
 refine AW.loopP (fun (z : Int × Int) => (a : Int) ≤ z.1 ∧ z.1 ≤ z.2 ∧ z.2 ≤ m ∧ ((a : Int) < z.1 → kat key l (z.1 - 1).toNat ≤ kat key l m) ∧ (z.2 < m → kat key l m < kat key l z.2.toNat)) (fun (z : Int × Int) => (pu (pu (pu (pu (pu (pu (pu (fun _ => .any) 0 (.sl 0 k l.length)) 1 (i64 a)) 2 (i64 m)) 3 (i64 b)) 4 (.fn (.func f) fi cap)) 14 (i64 z.1)) 15 (i64 z.2))) (fun (z : Int × Int) => [.row k 38 8 (l.map tOp)]) (fun (z : Int × Int) => (z.2 - z.1).toNat) (((a : Int), (m : Int))) ?_ ?_ ?_
 ·exact ⟨Int.le_refl _, by dsimp only; omega, Int.le_refl _, fun h => by dsimp only at h; omega, fun h => by dsimp only at h; omega⟩
 ·exact Wk.cq 1
 ·rintro ⟨i, j⟩ ⟨h1, h2, h3, h4, h5⟩
  dsimp only at h1 h2 h3 h4 h5 ⊢
  by_cases hij : i < j
  ·obtain ⟨y, hy⟩ : ∃ y, l[((i + j) / 2).toNat]? = some y := ⟨_, List.getElem?_eq_getElem (by omega)⟩
   have ky := kat_of (key := key) hy
   obtain ⟨c, hc0, hcv⟩ := hg x (List.mem_of_getElem? hx) y (List.mem_of_getElem? hy)
   by_cases hk : key x < key y
   ·have hcn := hc0.2 hk
    repeat' (first | ((with_reducible refine kAL ?_); (first | refine A_shr rfl rfl 97 97 _ _ rfl rfl rfl (by decide) (fdiv_lit (m := 2) rfl (by decide)) ?_ | refine uA ?_)) | ((with_reducible refine kRG ?_); (first | refine R_callv rfl rfl rfl rfl (hcv) (acc := _) rfl (fun h' hh => by ((repeat (first | exact .nil | refine .cons ?_ ?_ | exact .t _ | refine .aggL ?_)); (first | done | fail))) rfl rfl ?_ | refine uR ?_)) | refine uC ?_ | refine AW.drawU (id := 17) mixed 2 qR ?_ | fail)
    all_goals first | (exfalso; omega) | skip
    refine ⟨(i, (i + j) / 2), ⟨h1, by dsimp only; omega, by dsimp only; omega, h4, fun _ => ?_⟩, by dsimp only; omega, ?_⟩
    ·dsimp only; rw [ky, kx]; exact hk
    ·exact Wk.cq 1
   ·have hcn : ¬ c < 0 := fun h => hk (hc0.1 h)
    repeat' (first | ((with_reducible refine kAL ?_); (first | refine A_shr rfl rfl 97 97 _ _ rfl rfl rfl (by decide) (fdiv_lit (m := 2) rfl (by decide)) ?_ | refine uA ?_)) | ((with_reducible refine kRG ?_); (first | refine R_callv rfl rfl rfl rfl (hcv) (acc := _) rfl (fun h' hh => by ((repeat (first | exact .nil | refine .cons ?_ ?_ | exact .t _ | refine .aggL ?_)); (first | done | fail))) rfl rfl ?_ | refine uR ?_)) | refine uC ?_ | refine AW.drawU (id := 17) mixed 2 qR ?_ | fail)
    all_goals first | (exfalso; omega) | skip
    refine ⟨((i + j) / 2 + 1, j), ⟨by dsimp only; omega, by dsimp only; omega, h3, fun _ => ?_, h5⟩, by dsimp only; omega, ?_⟩
    ·dsimp only; rw [Int.add_sub_cancel, ky, kx]; omega
    ·exact Wk.cq 1
  ·obtain rfl : i = j := by omega
   obtain ⟨i, rfl⟩ : ∃ n : Nat, i = n := ⟨i.toNat, by omega⟩
   have hres : bubd l m (m - i) = srt key l a b := by
    rw [hmb]
    exact merge_last (by omega) (by omega) (by omega) hs (fun h => by have := h4 (by omega); rwa [show ((i : Int) - 1).toNat = i - 1 by omega] at this) (fun h => by have := h5 (by omega); rwa [Int.toNat_natCast] at this)
   repeat' (first | refine uA ?_ | refine uC ?_ | fail)
   all_goals first | (exfalso; omega) | skip
   refine AW.loopP (fun (z : Int × List DOp) => (i : Int) ≤ z.1 ∧ z.1 ≤ m ∧ z.2.length = l.length ∧ bubd z.2 z.1.toNat (z.1.toNat - i) = srt key l a b) (fun (z : Int × List DOp) => (pu (pu (pu (pu (fun _ => .any) 0 (.sl 0 k l.length)) 4 (.fn (.func f) fi cap)) 14 (i64 i)) 17 (i64 z.1))) (fun (z : Int × List DOp) => [.row k 38 8 (z.2.map tOp)]) (fun (z : Int × List DOp) => (z.1 - i).toNat) (((m : Int), l)) ?_ ?_ ?_
   ·exact ⟨by dsimp only; omega, by dsimp only; omega, rfl, hres⟩
   ·exact Wk.cq 1
   ·rintro ⟨q, M⟩ ⟨g1, g0, g2, g3⟩
    dsimp only at g1 g0 g2 g3 ⊢
    have hMt : (M.map tOp).length = l.length := by rw [List.length_map, g2]
    by_cases hq : (i : Int) < q
    ·have e1 : (q - 1).toNat = q.toNat - 1 := by omega
     obtain ⟨x, hx⟩ : ∃ x, M[q.toNat]? = some x := ⟨_, List.getElem?_eq_getElem (by omega)⟩
     obtain ⟨y, hy⟩ : ∃ y, M[(q - 1).toNat]? = some y := ⟨_, List.getElem?_eq_getElem (by omega)⟩
     have hy2 : (M.set q.toNat y)[(q - 1).toNat]? = some y := by rw [List.getElem?_set_ne (by omega), hy]
     have hsw := swp_of_o hx hy
     rw [show q.toNat - i = ((q - 1).toNat - i) + 1 by omega, bubd, show swp M q.toNat (q.toNat - 1) = swp M q.toNat (q - 1).toNat by rw [e1], ← hsw, ← e1] at g3
     skip
     repeat' (first | refine uA ?_ | refine uR ?_ | refine uC ?_ | refine AW.drawU (id := 23) mixed 0 qR ?_ | fail)
     all_goals first | (exfalso; omega) | skip
     refine ⟨(q - 1, (M.set q.toNat y).set (q - 1).toNat x), ⟨by dsimp only; omega, by dsimp only; omega, by simp [g2], g3⟩, by dsimp only; omega, ?_⟩
     exact Wk.cq 1
    ·rw [show q.toNat - i = 0 by omega, bubd] at g3
     subst g3
     repeat' (first | refine uA ?_ | refine uC ?_ | fail)
     all_goals first | (exfalso; omega) | (exact Fin.q Tryz.results128 .nil [])
include hup hps in
theorem merge3_c_o (l : List DOp) (a m b : Nat) (ham : a + 1 < m) (hmb : m + 1 < b) (hb : b ≤ l.length) (hl : l.length ≤ 1152921504606846976) (hg : CmpV_o (.fn (.func f) fi cap) key l) (hs1 : srtd key (seg l a m)) (hs2 : srtd key (seg l m b))
  (IH : ∀ (l : List DOp) (a' m' b' : Nat), b' - a' < b - a → a' < m' → m' < b' → b' ≤ l.length → l.length ≤ 1152921504606846976 → CmpV_o (.fn (.func f) fi cap) key l → srtd key (seg l a' m') → srtd key (seg l m' b') → Cio Tryz.prog 128 [.sl 0 k l.length, i64 a', i64 m', i64 b', .fn (.func f) fi cap] [.row k 38 8 (l.map tOp)] (.tup []) [.row k 38 8 ((srt key l a' b').map tOp)]) :
  Cio Tryz.prog 128 [.sl 0 k l.length, i64 a, i64 m, i64 b, .fn (.func f) fi cap] [.row k 38 8 (l.map tOp)] (.tup []) [.row k 38 8 ((srt key l a b).map tOp)] := by
 have hlt : (l.map tOp).length = l.length := List.length_map _
 obtain ⟨mid, emid⟩ : ∃ mid : Nat, ((a : Int) + (b : Int)) / 2 = mid := ⟨(a + b) / 2, by omega⟩
 refine Cio.enter' Tryz.func128 rfl Tryz.ntmps128 rfl qM ?_
 by_cases hmm : mid < m
 ·obtain ⟨lo, elo⟩ : ∃ lo : Int, lo = (mid : Int) + m - b := ⟨_, rfl⟩
  obtain ⟨hi, ehi⟩ : ∃ hi : Int, hi = (mid : Int) := ⟨_, rfl⟩
  repeat' (first | ((with_reducible refine kAL ?_); (first | refine A_shr rfl rfl 97 97 _ _ rfl rfl rfl (by decide) (fdiv_lit (m := 2) rfl (by decide)) ?_ | refine uA ?_)) | refine uC ?_ | fail)
  all_goals first | (exfalso; omega) | skip
  rw [emid]
  refine AW.loopP (fun (z : Int × Int) => lo ≤ z.1 ∧ z.1 ≤ z.2 ∧ z.2 ≤ hi ∧ (lo < z.1 → kat key l (z.1 - 1).toNat ≤ kat key l ((mid : Int) + m - 1 - (z.1 - 1)).toNat) ∧ (z.2 < hi → kat key l ((mid : Int) + m - 1 - z.2).toNat < kat key l z.2.toNat)) (fun (z : Int × Int) => (pu (pu (pu (pu (pu (pu (pu (pu (pu (pu (fun _ => .any) 0 (.sl 0 k l.length)) 1 (i64 a)) 2 (i64 m)) 3 (i64 b)) 4 (.fn (.func f) fi cap)) 18 (i64 mid)) 19 (i64 ((mid : Int) + m))) 20 (i64 z.1)) 21 (i64 z.2)) 22 (i64 ((mid : Int) + m - 1)))) (fun (z : Int × Int) => [.row k 38 8 (l.map tOp)]) (fun (z : Int × Int) => (z.2 - z.1).toNat) ((lo, hi)) ?_ ?_ ?_
  ·exact ⟨Int.le_refl _, by dsimp only; omega, Int.le_refl _, fun h => by dsimp only at h; omega, fun h => by dsimp only at h; omega⟩
  ·subst elo ehi; exact Wk.cq 1
  ·rintro ⟨i, j⟩ ⟨h1, h2, h3, h4, h5⟩
   dsimp only at h1 h2 h3 h4 h5 ⊢
   by_cases hij : i < j
   ·obtain ⟨y, hy⟩ : ∃ y, l[((i + j) / 2).toNat]? = some y := ⟨_, List.getElem?_eq_getElem (by omega)⟩
    obtain ⟨x, hx⟩ : ∃ x, l[((mid : Int) + m - 1 - (i + j) / 2).toNat]? = some x := ⟨_, List.getElem?_eq_getElem (by omega)⟩
    have ky := kat_of (key := key) hy
    have kx := kat_of (key := key) hx
    obtain ⟨c, hc0, hcv⟩ := hg x (List.mem_of_getElem? hx) y (List.mem_of_getElem? hy)
    by_cases hk : key x < key y
    ·have hcn := hc0.2 hk
     repeat' (first | ((with_reducible refine kAL ?_); (first | refine A_shr rfl rfl 97 97 _ _ rfl rfl rfl (by decide) (fdiv_lit (m := 2) rfl (by decide)) ?_ | refine uA ?_)) | ((with_reducible refine kRG ?_); (first | refine R_callv rfl rfl rfl rfl (hcv) (acc := _) rfl (fun h' hh => by ((repeat (first | exact .nil | refine .cons ?_ ?_ | exact .t _ | refine .aggL ?_)); (first | done | fail))) rfl rfl ?_ | refine uR ?_)) | refine uC ?_ | refine AW.drawU (id := 35) mixed 2 qR ?_ | fail)
     all_goals first | (exfalso; omega) | skip
     refine ⟨(i, (i + j) / 2), ⟨h1, by dsimp only; omega, by dsimp only; omega, h4, fun _ => ?_⟩, by dsimp only; omega, ?_⟩
     ·dsimp only; rw [ky, kx]; exact hk
     ·exact Wk.cq 1
    ·have hcn : ¬ c < 0 := fun h => hk (hc0.1 h)
     repeat' (first | ((with_reducible refine kAL ?_); (first | refine A_shr rfl rfl 97 97 _ _ rfl rfl rfl (by decide) (fdiv_lit (m := 2) rfl (by decide)) ?_ | refine uA ?_)) | ((with_reducible refine kRG ?_); (first | refine R_callv rfl rfl rfl rfl (hcv) (acc := _) rfl (fun h' hh => by ((repeat (first | exact .nil | refine .cons ?_ ?_ | exact .t _ | refine .aggL ?_)); (first | done | fail))) rfl rfl ?_ | refine uR ?_)) | refine uC ?_ | refine AW.drawU (id := 35) mixed 2 qR ?_ | fail)
     all_goals first | (exfalso; omega) | skip
     refine ⟨((i + j) / 2 + 1, j), ⟨by dsimp only; omega, by dsimp only; omega, h3, fun _ => ?_, h5⟩, by dsimp only; omega, ?_⟩
     ·dsimp only; rw [Int.add_sub_cancel, ky, kx]; omega
     ·exact Wk.cq 1
   ·obtain rfl : i = j := by omega
    obtain ⟨st, rfl⟩ : ∃ n : Nat, i = n := ⟨i.toNat, by omega⟩
    obtain ⟨en, een⟩ : ∃ en : Nat, (mid : Int) + m - st = en := ⟨((mid : Int) + m - st).toNat, by omega⟩
    have q1 : a ≤ st := by omega
    have q2 : st ≤ m := by omega
    have q3 : m ≤ en := by omega
    have q4 : en ≤ b := by omega
    have q5 : st ≤ mid := by omega
    obtain ⟨s1, s2, s3, s4, s5⟩ := merge_mid (mid := mid) q1 q2 q3 q4 hb (by omega) hs1 hs2 (fun g1 g2 => by
     have := h4 (by omega)
     rwa [show ((st : Int) - 1).toNat = st - 1 by omega, show ((mid : Int) + m - 1 - ((st : Int) - 1)).toNat = en by omega] at this) (fun g1 g2 => by
     have := h5 (by omega)
     rwa [show ((mid : Int) + m - 1 - (st : Int)).toNat = en - 1 by omega, Int.toNat_natCast] at this)
    have n1 : ¬ (st < m ∧ m < en) → l = rot l st m en := fun h => (rot_same q2 q3 h).symm
    have n2 : ¬ (a < st ∧ st < mid) → rot l st m en = srt key (rot l st m en) a mid := fun h => by
     by_cases e : a = st
     ·subst e; exact (srt_srtd (by omega) s2).symm
     ·have e2 : st = mid := by omega
      subst e2; exact (srt_srtd q1 s1).symm
    have n3 : ¬ (mid < en ∧ en < b) → srt key (rot l st m en) a mid = srt key l a b := fun h => by
     rw [← s5]
     by_cases e : mid = en
     ·subst e; exact (srt_srtd (by omega) s4).symm
     ·have e2 : en = b := by omega
      subst e2; exact (srt_srtd (by omega) s3).symm
    have v1 : ∀ z ∈ rot l st m en, z ∈ l := fun z hz => rot_mem hz
    have v2 : ∀ z ∈ srt key (rot l st m en) a mid, z ∈ l := fun z hz => v1 z ((srt_mem (by omega)).1 hz)
    have w1 : (rot l st m en).length = l.length := rot_len q2 q3 (by omega)
    have w2 : (srt key (rot l st m en) a mid).length = l.length := by rw [srt_len (by omega) (by omega), w1]
    have cR : st < m ∧ m < en → _ := fun h => rotate_c_o f fi cap hup hps l k st m en h.1 h.2 (by omega) hl
    have c2 : a < st ∧ st < mid → _ := fun h => IH (rot l st m en) a st mid (by omega) h.1 h.2 (by omega) (by omega) (hg.mono v1) s1 s2
    have c3 : mid < en ∧ en < b → _ := fun h => IH (srt key (rot l st m en) a mid) mid en b (by omega) h.1 h.2 (by omega) (by omega) (hg.mono v2) s3 s4
    rw [s5] at c3
    rw [w1] at c2
    rw [w2] at c3
    clear s1 s2 s3 s4 s5 v1 v2 w1 w2 h4 h5 hs1 hs2 hg
    generalize srt key l a b = L3 at *
    generalize srt key (rot l st m en) a mid = L2 at *
    generalize rot l st m en = L1 at *
    rw [← een] at cR c3
    have t1 : (st < m ∧ m < en) ∨ (¬ (st < m ∧ m < en) ∧ l = L1) := (Classical.em _).imp id fun h => ⟨h, n1 h⟩
    have t2 : (a < st ∧ st < mid) ∨ (¬ (a < st ∧ st < mid) ∧ L1 = L2) := (Classical.em _).imp id fun h => ⟨h, n2 h⟩
    have t3 : (mid < en ∧ en < b) ∨ (¬ (mid < en ∧ en < b) ∧ L2 = L3) := (Classical.em _).imp id fun h => ⟨h, n3 h⟩
    clear n1 n2 n3
    rcases t1 with g1 | ⟨g1, rfl⟩ <;> rcases t2 with g2 | ⟨g2, rfl⟩ <;> rcases t3 with g3 | ⟨g3, rfl⟩
    all_goals try (exfalso; omega)
    all_goals
     repeat' (first | ((with_reducible refine kAL ?_); (first | refine A_shr rfl rfl 97 97 _ _ rfl rfl rfl (by decide) (fdiv_lit (m := 2) rfl (by decide)) ?_ | (refine uI [0] (cR ?zq0) ?_; (case zq0 => omega)) | (refine uI [0] (c2 ?zq0) ?_; (case zq0 => omega)) | (refine uI [0] (c3 ?zq0) ?_; (case zq0 => omega)) | refine uA ?_)) | refine uR ?_ | refine uC ?_ | refine AW.drawU (id := 35) mixed 2 qR ?_ | fail)
     all_goals first | (exfalso; omega) | (exact Fin.q Tryz.results128 .nil [])
 ·obtain ⟨lo, elo⟩ : ∃ lo : Int, lo = (a : Int) := ⟨_, rfl⟩
  obtain ⟨hi, ehi⟩ : ∃ hi : Int, hi = (m : Int) := ⟨_, rfl⟩
  repeat' (first | ((with_reducible refine kAL ?_); (first | refine A_shr rfl rfl 97 97 _ _ rfl rfl rfl (by decide) (fdiv_lit (m := 2) rfl (by decide)) ?_ | refine uA ?_)) | refine uC ?_ | fail)
  all_goals first | (exfalso; omega) | skip
  rw [emid]
  refine AW.loopP (fun (z : Int × Int) => lo ≤ z.1 ∧ z.1 ≤ z.2 ∧ z.2 ≤ hi ∧ (lo < z.1 → kat key l (z.1 - 1).toNat ≤ kat key l ((mid : Int) + m - 1 - (z.1 - 1)).toNat) ∧ (z.2 < hi → kat key l ((mid : Int) + m - 1 - z.2).toNat < kat key l z.2.toNat)) (fun (z : Int × Int) => (pu (pu (pu (pu (pu (pu (pu (pu (pu (pu (fun _ => .any) 0 (.sl 0 k l.length)) 1 (i64 a)) 2 (i64 m)) 3 (i64 b)) 4 (.fn (.func f) fi cap)) 18 (i64 mid)) 19 (i64 ((mid : Int) + m))) 20 (i64 z.1)) 21 (i64 z.2)) 22 (i64 ((mid : Int) + m - 1)))) (fun (z : Int × Int) => [.row k 38 8 (l.map tOp)]) (fun (z : Int × Int) => (z.2 - z.1).toNat) ((lo, hi)) ?_ ?_ ?_
  ·exact ⟨Int.le_refl _, by dsimp only; omega, Int.le_refl _, fun h => by dsimp only at h; omega, fun h => by dsimp only at h; omega⟩
  ·subst elo ehi; exact Wk.cq 1
  ·rintro ⟨i, j⟩ ⟨h1, h2, h3, h4, h5⟩
   dsimp only at h1 h2 h3 h4 h5 ⊢
   by_cases hij : i < j
   ·obtain ⟨y, hy⟩ : ∃ y, l[((i + j) / 2).toNat]? = some y := ⟨_, List.getElem?_eq_getElem (by omega)⟩
    obtain ⟨x, hx⟩ : ∃ x, l[((mid : Int) + m - 1 - (i + j) / 2).toNat]? = some x := ⟨_, List.getElem?_eq_getElem (by omega)⟩
    have ky := kat_of (key := key) hy
    have kx := kat_of (key := key) hx
    obtain ⟨c, hc0, hcv⟩ := hg x (List.mem_of_getElem? hx) y (List.mem_of_getElem? hy)
    by_cases hk : key x < key y
    ·have hcn := hc0.2 hk
     repeat' (first | ((with_reducible refine kAL ?_); (first | refine A_shr rfl rfl 97 97 _ _ rfl rfl rfl (by decide) (fdiv_lit (m := 2) rfl (by decide)) ?_ | refine uA ?_)) | ((with_reducible refine kRG ?_); (first | refine R_callv rfl rfl rfl rfl (hcv) (acc := _) rfl (fun h' hh => by ((repeat (first | exact .nil | refine .cons ?_ ?_ | exact .t _ | refine .aggL ?_)); (first | done | fail))) rfl rfl ?_ | refine uR ?_)) | refine uC ?_ | refine AW.drawU (id := 35) mixed 2 qR ?_ | fail)
     all_goals first | (exfalso; omega) | skip
     refine ⟨(i, (i + j) / 2), ⟨h1, by dsimp only; omega, by dsimp only; omega, h4, fun _ => ?_⟩, by dsimp only; omega, ?_⟩
     ·dsimp only; rw [ky, kx]; exact hk
     ·exact Wk.cq 1
    ·have hcn : ¬ c < 0 := fun h => hk (hc0.1 h)
     repeat' (first | ((with_reducible refine kAL ?_); (first | refine A_shr rfl rfl 97 97 _ _ rfl rfl rfl (by decide) (fdiv_lit (m := 2) rfl (by decide)) ?_ | refine uA ?_)) | ((with_reducible refine kRG ?_); (first | refine R_callv rfl rfl rfl rfl (hcv) (acc := _) rfl (fun h' hh => by ((repeat (first | exact .nil | refine .cons ?_ ?_ | exact .t _ | refine .aggL ?_)); (first | done | fail))) rfl rfl ?_ | refine uR ?_)) | refine uC ?_ | refine AW.drawU (id := 35) mixed 2 qR ?_ | fail)
     all_goals first | (exfalso; omega) | skip
     refine ⟨((i + j) / 2 + 1, j), ⟨by dsimp only; omega, by dsimp only; omega, h3, fun _ => ?_, h5⟩, by dsimp only; omega, ?_⟩
     ·dsimp only; rw [Int.add_sub_cancel, ky, kx]; omega
     ·exact Wk.cq 1
   ·obtain rfl : i = j := by omega
    obtain ⟨st, rfl⟩ : ∃ n : Nat, i = n := ⟨i.toNat, by omega⟩
    obtain ⟨en, een⟩ : ∃ en : Nat, (mid : Int) + m - st = en := ⟨((mid : Int) + m - st).toNat, by omega⟩
    have q1 : a ≤ st := by omega
    have q2 : st ≤ m := by omega
    have q3 : m ≤ en := by omega
    have q4 : en ≤ b := by omega
    have q5 : st ≤ mid := by omega
    obtain ⟨s1, s2, s3, s4, s5⟩ := merge_mid (mid := mid) q1 q2 q3 q4 hb (by omega) hs1 hs2 (fun g1 g2 => by
     have := h4 (by omega)
     rwa [show ((st : Int) - 1).toNat = st - 1 by omega, show ((mid : Int) + m - 1 - ((st : Int) - 1)).toNat = en by omega] at this) (fun g1 g2 => by
     have := h5 (by omega)
     rwa [show ((mid : Int) + m - 1 - (st : Int)).toNat = en - 1 by omega, Int.toNat_natCast] at this)
    have n1 : ¬ (st < m ∧ m < en) → l = rot l st m en := fun h => (rot_same q2 q3 h).symm
    have n2 : ¬ (a < st ∧ st < mid) → rot l st m en = srt key (rot l st m en) a mid := fun h => by
     by_cases e : a = st
     ·subst e; exact (srt_srtd (by omega) s2).symm
     ·have e2 : st = mid := by omega
      subst e2; exact (srt_srtd q1 s1).symm
    have n3 : ¬ (mid < en ∧ en < b) → srt key (rot l st m en) a mid = srt key l a b := fun h => by
     rw [← s5]
     by_cases e : mid = en
     ·subst e; exact (srt_srtd (by omega) s4).symm
     ·have e2 : en = b := by omega
      subst e2; exact (srt_srtd (by omega) s3).symm
    have v1 : ∀ z ∈ rot l st m en, z ∈ l := fun z hz => rot_mem hz
    have v2 : ∀ z ∈ srt key (rot l st m en) a mid, z ∈ l := fun z hz => v1 z ((srt_mem (by omega)).1 hz)
    have w1 : (rot l st m en).length = l.length := rot_len q2 q3 (by omega)
    have w2 : (srt key (rot l st m en) a mid).length = l.length := by rw [srt_len (by omega) (by omega), w1]
    have cR : st < m ∧ m < en → _ := fun h => rotate_c_o f fi cap hup hps l k st m en h.1 h.2 (by omega) hl
    have c2 : a < st ∧ st < mid → _ := fun h => IH (rot l st m en) a st mid (by omega) h.1 h.2 (by omega) (by omega) (hg.mono v1) s1 s2
    have c3 : mid < en ∧ en < b → _ := fun h => IH (srt key (rot l st m en) a mid) mid en b (by omega) h.1 h.2 (by omega) (by omega) (hg.mono v2) s3 s4
    rw [s5] at c3
    rw [w1] at c2
    rw [w2] at c3
    clear s1 s2 s3 s4 s5 v1 v2 w1 w2 h4 h5 hs1 hs2 hg
    generalize srt key l a b = L3 at *
    generalize srt key (rot l st m en) a mid = L2 at *
    generalize rot l st m en = L1 at *
    rw [← een] at cR c3
    have t1 : (st < m ∧ m < en) ∨ (¬ (st < m ∧ m < en) ∧ l = L1) := (Classical.em _).imp id fun h => ⟨h, n1 h⟩
    have t2 : (a < st ∧ st < mid) ∨ (¬ (a < st ∧ st < mid) ∧ L1 = L2) := (Classical.em _).imp id fun h => ⟨h, n2 h⟩
    have t3 : (mid < en ∧ en < b) ∨ (¬ (mid < en ∧ en < b) ∧ L2 = L3) := (Classical.em _).imp id fun h => ⟨h, n3 h⟩
    clear n1 n2 n3
    rcases t1 with g1 | ⟨g1, rfl⟩ <;> rcases t2 with g2 | ⟨g2, rfl⟩ <;> rcases t3 with g3 | ⟨g3, rfl⟩
    all_goals try (exfalso; omega)
    all_goals
     repeat' (first | ((with_reducible refine kAL ?_); (first | refine A_shr rfl rfl 97 97 _ _ rfl rfl rfl (by decide) (fdiv_lit (m := 2) rfl (by decide)) ?_ | (refine uI [0] (cR ?zq0) ?_; (case zq0 => omega)) | (refine uI [0] (c2 ?zq0) ?_; (case zq0 => omega)) | (refine uI [0] (c3 ?zq0) ?_; (case zq0 => omega)) | refine uA ?_)) | refine uR ?_ | refine uC ?_ | refine AW.drawU (id := 35) mixed 2 qR ?_ | fail)
     all_goals first | (exfalso; omega) | (exact Fin.q Tryz.results128 .nil [])
include hup hps in
theorem symMerge_c_o : ∀ (N : Nat) (l : List DOp) (a m b : Nat), b - a = N → a < m → m < b → b ≤ l.length → l.length ≤ 1152921504606846976 → CmpV_o (.fn (.func f) fi cap) key l → srtd key (seg l a m) → srtd key (seg l m b) →
  Cio Tryz.prog 128 [.sl 0 k l.length, i64 a, i64 m, i64 b, .fn (.func f) fi cap] [.row k 38 8 (l.map tOp)] (.tup []) [.row k 38 8 ((srt key l a b).map tOp)] := by
 intro N
 induction N using Nat.strongRecOn with
 | _ N ih =>
  intro l a m b hN h1 h2 h3 h4 h5 h6 h7
  by_cases e1 : m = a + 1
  ·exact merge1_c_o f fi cap key hup k l a m b e1 h2 h3 h4 h5 h7
  ·by_cases e2 : b = m + 1
   ·exact merge2_c_o f fi cap key hup k l a m b (by omega) e2 h3 h4 h5 h6
   ·exact merge3_c_o f fi cap key hup hps k l a m b (by omega) (by omega) h3 h4 h5 h6 h7 fun l a' m' b' g0 => ih (b' - a') (by omega) l a' m' b' rfl
end
end
end Go.Proofs.YtbpgopomninedaaGreat
