/- Joined: XTDiffQ, XTLaw39b. -/
import Derived.Test.YtnibnbcmnaflmaaKDh
import Derived.Test.YtnibnbcmnaflmaaKDm
namespace Go.Proofs.Ytnibnbcmnaflmaa
set_option linter.unusedVariables false
set_option linter.unusedSimpArgs false
set_option linter.unnecessarySimpa false
theorem fE_all {c : Nat → Int} : ∀ {n : Nat}, (∀ i, i < n → c i = 0) → fE c n = 0
 | 0, _ => rfl
 | n + 1, h => by
  have := fE_all (n := n) fun i hi => h i (by omega)
  rw [fE_next this]; exact h n (by omega)
theorem fE_get {c : Nat → Int} : ∀ {n : Nat}, fE c n = 0 → ∀ i, i < n → c i = 0
 | 0, _, i, hi => by omega
 | n + 1, h, i, hi => by
  by_cases h0 : fE c n = 0
  ·rw [fE_next h0] at h
   by_cases e : i = n
   ·subst e; exact h
   ·exact fE_get h0 i (by omega)
  ·simp only [fE, if_neg h0] at h; exact absurd h h0
structure Fit (l : List Int) (xs : List DXg) : Prop where
 nd : ndX xs
 ok : ∀ x ∈ xs, ∃ i : Nat, x.addr = (i : Int) ∧ l[i]? = some x.old
theorem Fit.run {l : List Int} {xs : List DXg} (h : Fit l xs) : ∀ q, q ≤ xs.length → apE l xs q = 0 ∧ (∀ x ∈ xs.take q, (apC l xs q)[x.addr.toNat]? = some x.now) ∧ ∀ i : Nat, (∀ x ∈ xs.take q, x.addr ≠ (i : Int)) → (apC l xs q)[i]? = l[i]?
 | 0, _ => ⟨rfl, fun x hx => by simp at hx, fun i _ => rfl⟩
 | q + 1, hq => by
  obtain ⟨h1, h2, h3⟩ := h.run q (by omega)
  have hx : xs[q]? = some xs[q] := List.getElem?_eq_getElem (by omega)
  obtain ⟨k, hk, hlk⟩ := h.ok _ (List.getElem_mem (show q < xs.length by omega))
  have hne : ∀ y ∈ xs.take q, y.addr ≠ (k : Int) := fun y hy e => by
   obtain ⟨j, hj⟩ := List.mem_iff_getElem?.1 hy
   rw [List.getElem?_take] at hj
   split at hj
   ·have a1 := fiX_one h.nd hj e
    have a2 := fiX_one h.nd hx hk
    omega
   ·cases hj
  have hcur := h3 k hne
  rw [hlk] at hcur
  have hlt := (List.getElem?_eq_some_iff.1 hcur).1
  have hn := apC_next (l := l) hx
  have hkt : xs[q].addr.toNat = k := by omega
  refine ⟨?_, fun y hy => ?_, fun i hi => ?_⟩
  ·rw [apE_next hx h1]
   unfold apK
   rw [if_neg (by omega), hkt, List.getD_eq_getElem?_getD, hcur, Option.getD_some, if_pos rfl]
  ·rw [List.take_add_one, hx, List.mem_append] at hy
   rw [hn, hkt, List.getElem?_set]
   rcases hy with hy | hy
   ·have := hne y hy
    by_cases e : k = y.addr.toNat
    ·obtain ⟨i, e1, _⟩ := h.ok y (List.mem_of_mem_take hy)
     omega
    ·rw [if_neg e]; exact h2 y hy
   ·simp at hy; subst hy
    rw [if_pos hkt.symm, if_pos hlt]
  ·have h4 : ∀ y ∈ xs.take q, y.addr ≠ (i : Int) := fun y hy => hi y (by rw [List.take_add_one, List.mem_append]; exact .inl hy)
   have h5 : xs[q].addr ≠ (i : Int) := hi _ (by rw [List.take_add_one, hx, List.mem_append]; exact .inr (by simp))
   rw [hn, hkt, List.getElem?_set, if_neg (by omega)]
   exact h3 i h4
theorem ofQ_mem {a b : List Int} {q : Nat} {x : DXg} : x ∈ ofQ a b q ↔ ∃ i : Nat, i < q ∧ a.getD i 0 ≠ b.getD i 0 ∧ x = ⟨i, a.getD i 0, b.getD i 0⟩ := by
 unfold ofQ
 rw [List.mem_filterMap]
 constructor
 ·rintro ⟨i, hi, h⟩
  split at h
  ·cases h
  ·rename_i hne
   cases h
   exact ⟨i, List.mem_range.1 hi, hne, rfl⟩
 ·rintro ⟨i, hi, hne, rfl⟩
  exact ⟨i, List.mem_range.2 hi, by rw [if_neg hne]⟩
theorem ofQ_ri (a b : List Int) : ∀ q, riX (ofQ a b q)
 | 0 => List.Pairwise.nil
 | q + 1 => by
  have h1 := ofQ_ri a b q
  by_cases h : a.getD q 0 = b.getD q 0
  ·have : ofQ a b (q + 1) = ofQ a b q := by
    unfold ofQ; rw [List.range_succ, List.filterMap_append]; simp only [List.filterMap_cons, h, if_true, List.filterMap_nil, List.append_nil]
   rw [this]; exact h1
  ·have : ofQ a b (q + 1) = ofQ a b q ++ [⟨q, a.getD q 0, b.getD q 0⟩] := by
    unfold ofQ; rw [List.range_succ, List.filterMap_append]; simp only [List.filterMap_cons, h, if_false, List.filterMap_nil]
   rw [this]
   unfold riX
   rw [List.pairwise_append]
   refine ⟨h1, List.pairwise_singleton _ _, fun x hx y hy => ?_⟩
   obtain ⟨i, hi, _, rfl⟩ := ofQ_mem.1 hx
   simp at hy; subst hy
   show (i : Int) < (q : Int)
   omega
theorem nd_of_ri {l : List DXg} (h : riX l) : ndX l := by
 unfold ndX
 rw [List.nodup_iff_pairwise_ne, List.pairwise_map]
 exact h.imp fun hab e => by omega
theorem gtD {l : List Int} {i : Nat} {x : Int} (h : l[i]? = some x) : l.getD i 0 = x := by rw [List.getD_eq_getElem?_getD, h]; rfl
theorem gtO {l : List Int} {i : Nat} (h : i < l.length) : l[i]? = some (l.getD i 0) := by rw [List.getD_eq_getElem?_getD, List.getElem?_eq_getElem h]; rfl
theorem ofQ_fit {a b : List Int} : Fit a (ofQ a b a.length) where
 nd := nd_of_ri (ofQ_ri a b _)
 ok x hx := by
  obtain ⟨i, hi, _, rfl⟩ := ofQ_mem.1 hx
  exact ⟨i, rfl, gtO hi⟩
theorem of_apply {a b : List Int} (h : a.length = b.length) : apE a (ofQ a b a.length) (ofQ a b a.length).length = 0 ∧ apC a (ofQ a b a.length) (ofQ a b a.length).length = b := by
 obtain ⟨h1, h2, h3⟩ := (ofQ_fit (a := a) (b := b)).run _ (Nat.le_refl _)
 refine ⟨h1, List.ext_getElem? fun i => ?_⟩
 rw [List.take_length] at h2 h3
 by_cases hi : i < a.length
 ·by_cases e : a.getD i 0 = b.getD i 0
  ·rw [h3 i fun x hx hxi => ?_, gtO hi, gtO (by omega), e]
   obtain ⟨j, _, hne, rfl⟩ := ofQ_mem.1 hx
   have : j = i := by dsimp only at hxi; omega
   subst this; exact hne e
  ·have := h2 _ (ofQ_mem.2 ⟨i, hi, e, rfl⟩)
   dsimp only at this
   rw [Int.toNat_natCast] at this
   rw [this, gtO (by omega)]
 ·rw [List.getElem?_eq_none (by rw [apC_len]; omega), List.getElem?_eq_none (by omega)]
theorem back_apply {a b : List Int} (h : a.length = b.length) : apE b (bkQ (ofQ a b a.length) 0) (bkQ (ofQ a b a.length) 0).length = 0 ∧ apC b (bkQ (ofQ a b a.length) 0) (bkQ (ofQ a b a.length) 0).length = a := by
 have hm : ∀ {x : DXg}, x ∈ bkQ (ofQ a b a.length) 0 ↔ ∃ i : Nat, i < a.length ∧ a.getD i 0 ≠ b.getD i 0 ∧ x = ⟨i, b.getD i 0, a.getD i 0⟩ := by
  intro x
  unfold bkQ
  rw [List.drop_zero, List.mem_map]
  constructor
  ·rintro ⟨y, hy, rfl⟩
   obtain ⟨i, h1, h2, rfl⟩ := ofQ_mem.1 (List.mem_reverse.1 hy)
   exact ⟨i, h1, h2, rfl⟩
  ·rintro ⟨i, h1, h2, rfl⟩
   exact ⟨_, List.mem_reverse.2 (ofQ_mem.2 ⟨i, h1, h2, rfl⟩), rfl⟩
 have hf : Fit b (bkQ (ofQ a b a.length) 0) := by
  refine ⟨?_, fun x hx => ?_⟩
  ·have h0 := nd_of_ri (ofQ_ri a b a.length)
   unfold ndX bkQ at *
   rw [List.drop_zero, List.map_map, show ((fun x : DXg => x.addr) ∘ flX) = (fun x => x.addr) from rfl, List.map_reverse]
   unfold List.Nodup at *
   rw [List.pairwise_reverse]
   exact h0.imp fun e => Ne.symm e
  ·obtain ⟨i, h1, _, rfl⟩ := hm.1 hx
   exact ⟨i, rfl, gtO (by omega)⟩
 obtain ⟨h1, h2, h3⟩ := hf.run _ (Nat.le_refl _)
 refine ⟨h1, List.ext_getElem? fun i => ?_⟩
 rw [List.take_length] at h2 h3
 by_cases hi : i < a.length
 ·by_cases e : a.getD i 0 = b.getD i 0
  ·rw [h3 i fun x hx hxi => ?_, gtO hi, gtO (by omega), e]
   obtain ⟨j, _, hne, rfl⟩ := hm.1 hx
   have : j = i := by dsimp only at hxi; omega
   subst this; exact hne e
  ·have := h2 _ (hm.2 ⟨i, hi, e, rfl⟩)
   dsimp only at this
   rw [Int.toNat_natCast] at this
   rw [this, gtO (by omega)]
 ·rw [List.getElem?_eq_none (by rw [apC_len]; omega), List.getElem?_eq_none (by omega)]
theorem apC_app (l : List Int) (xs ys : List DXg) (q : Nat) : apC l (xs ++ ys) (xs.length + q) = apC (apC l xs xs.length) ys q := by
 unfold apC
 rw [List.take_append, List.take_of_length_le (by omega), List.take_length, Nat.add_sub_cancel_left, List.foldl_append]
theorem apC_app0 (l : List Int) (xs ys : List DXg) {q : Nat} (h : q ≤ xs.length) : apC l (xs ++ ys) q = apC l xs q := by
 unfold apC
 rw [List.take_append_of_le_length h]
theorem apE_app {l : List Int} {xs ys : List DXg} (h1 : apE l xs xs.length = 0) (h2 : apE (apC l xs xs.length) ys ys.length = 0) : apE l (xs ++ ys) (xs ++ ys).length = 0 := by
 refine fE_all fun i hi => ?_
 by_cases hx : i < xs.length
 ·have := fE_get h1 i hx
  rw [apC_app0 l xs ys (by omega)]
  rw [show (xs ++ ys).getD i default = xs.getD i default by rw [List.getD_eq_getElem?_getD, List.getElem?_append_left hx, ← List.getD_eq_getElem?_getD]]
  exact this
 ·obtain ⟨q, rfl⟩ : ∃ q, i = xs.length + q := ⟨i - xs.length, by omega⟩
  rw [List.length_append] at hi
  have := fE_get h2 q (by omega)
  rw [apC_app]
  rw [show (xs ++ ys).getD (xs.length + q) default = ys.getD q default by rw [List.getD_eq_getElem?_getD, List.getElem?_append_right (by omega), Nat.add_sub_cancel_left, ← List.getD_eq_getElem?_getD]]
  exact this
structure Says (l f : List Int) (C : List DXg) : Prop where
 here : ∀ z ∈ C, ∃ i : Nat, z.addr = (i : Int) ∧ l[i]? = some z.old ∧ f[i]? = some z.now
 else_ : ∀ i : Nat, (∀ z ∈ C, z.addr ≠ (i : Int)) → f[i]? = l[i]?
theorem apK_zero {C : List Int} {x : DXg} (h : apK C x = 0) : ∃ i : Nat, x.addr = (i : Int) ∧ C[i]? = some x.old := by
 unfold apK at h
 split at h
 ·exact absurd h (by decide)
 ·rename_i hb
  split at h
  ·rename_i e
   refine ⟨x.addr.toNat, by omega, ?_⟩
   rw [gtO (by omega), e]
  ·exact absurd h (by decide)
theorem then_says {l : List Int} {xs : List DXg} (h : apE l xs xs.length = 0) : ∀ q, q ≤ xs.length → thE xs q = 0 ∧ Says l (apC l xs q) (thC xs q)
 | 0, _ => ⟨rfl, fun z hz => by simp [thC] at hz, fun i _ => rfl⟩
 | q + 1, hq => by
  obtain ⟨h1, h2⟩ := then_says h q (by omega)
  have hx : xs[q]? = some xs[q] := List.getElem?_eq_getElem (by omega)
  have hk := fE_get h q (by omega)
  rw [List.getD_eq_getElem?_getD, hx, Option.getD_some] at hk
  obtain ⟨k, hxk, hcur⟩ := apK_zero hk
  have hn := thC_next hx
  have hc := apC_next (l := l) hx
  have hkt : xs[q].addr.toNat = k := by omega
  rw [hkt] at hc
  have hlt := (List.getElem?_eq_some_iff.1 hcur).1
  generalize hxx : xs[q] = x at *
  obtain ⟨xa, xo, xn⟩ := x
  dsimp only at *
  subst hxk
  have hnd := thC_nd xs q
  generalize hC : thC xs q = C at *
  generalize hF : apC l xs q = F at *
  by_cases hf : fiX C (k : Int) < C.length
  ·obtain ⟨y, hy, hyk⟩ := fiX_lt hf
   have hD : C.getD (fiX C (k : Int)) default = y := by rw [List.getD_eq_getElem?_getD, hy]; rfl
   obtain ⟨i, hi, e1, e2⟩ := h2.here y (List.mem_of_getElem? hy)
   obtain rfl : i = k := by omega
   rw [hcur] at e2; cases e2
   refine ⟨?_, ?_⟩
   ·rw [thE_next hx h1, hC]
    unfold thK
    dsimp only
    rw [if_pos hf, hD, if_pos rfl]
   ·rw [hn, hc]
    unfold stX
    dsimp only
    rw [if_pos hf, hD]
    refine ⟨fun z hz => ?_, fun j hj => ?_⟩
    ·obtain ⟨m, hm⟩ := List.getElem?_of_mem hz
     rw [List.getElem?_set] at hm
     split at hm
     ·cases hm
      exact ⟨i, hi, e1, by rw [List.getElem?_set, if_pos rfl, if_pos hlt]⟩
     ·rename_i hne
      obtain ⟨j, w1, w2, w3⟩ := h2.here z (List.mem_of_getElem? hm)
      refine ⟨j, w1, w2, ?_⟩
      have hji : i ≠ j := fun e => by
       subst e
       exact hne ((fiX_one hnd hm w1).symm ▸ rfl)
      rw [List.getElem?_set, if_neg hji, w3]
    ·have hij : i ≠ j := fun e => by
      subst e
      have hmm : (C.set (fiX C (i : Int)) ⟨y.addr, y.old, xn⟩)[fiX C (i : Int)]? = some ⟨y.addr, y.old, xn⟩ := by rw [List.getElem?_set]; simp [hf]
      exact hj _ (List.mem_of_getElem? hmm) hi
     rw [List.getElem?_set, if_neg hij]
     refine h2.else_ j fun z hz e => ?_
     obtain ⟨m, hm⟩ := List.getElem?_of_mem hz
     by_cases hm2 : fiX C (i : Int) = m
     ·subst hm2; rw [hy] at hm; cases hm; omega
     ·exact hj z (List.mem_of_getElem? (i := m) (by rw [List.getElem?_set, if_neg hm2, hm])) e
  ·have hno : ∀ z ∈ C, z.addr ≠ (k : Int) := fun z hz => by
    obtain ⟨m, hm⟩ := List.getElem?_of_mem hz
    exact fiX_not (by have := (List.getElem?_eq_some_iff.1 hm).1; omega) hm
   have hlk := h2.else_ k hno
   rw [hcur] at hlk
   refine ⟨?_, ?_⟩
   ·rw [thE_next hx h1, hC]
    unfold thK
    dsimp only
    rw [if_neg hf]
   ·rw [hn, hc]
    unfold stX
    dsimp only
    rw [if_neg hf]
    refine ⟨fun z hz => ?_, fun j hj => ?_⟩
    ·rcases List.mem_append.1 hz with hz | hz
     ·obtain ⟨j, w1, w2, w3⟩ := h2.here z hz
      have := hno z hz
      exact ⟨j, w1, w2, by rw [List.getElem?_set, if_neg (by omega), w3]⟩
     ·simp at hz; subst hz
      exact ⟨k, rfl, hlk.symm, by rw [List.getElem?_set, if_pos rfl, if_pos hlt]⟩
    ·have hkj : k ≠ j := fun e => hj ⟨k, xo, xn⟩ (by simp) (by rw [e])
     rw [List.getElem?_set, if_neg hkj]
     exact h2.else_ j fun z hz => hj z (List.mem_append_left _ hz)
theorem then_of {l : List Int} {xs : List DXg} (h : apE l xs xs.length = 0) : thE xs xs.length = 0 ∧ inR (thC xs xs.length) (thC xs xs.length).length = ofQ l (apC l xs xs.length) l.length := by
 obtain ⟨h1, h2⟩ := then_says h xs.length (Nat.le_refl _)
 have hlen := apC_len l xs xs.length
 refine ⟨h1, (inR_of (thC_nd xs _) (fun z => ?_) (ofQ_ri _ _ _)).symm⟩
 unfold kpX
 rw [ofQ_mem, List.mem_filter]
 constructor
 ·rintro ⟨i, hi, hne, rfl⟩
  by_cases hx : ∃ z ∈ thC xs xs.length, z.addr = (i : Int)
  ·obtain ⟨z, hz, hzi⟩ := hx
   obtain ⟨j, w1, w2, w3⟩ := h2.here z hz
   obtain rfl : j = i := by omega
   rw [gtD w2, gtD w3] at hne ⊢
   obtain ⟨za, zo, zn⟩ := z
   dsimp only at *
   subst w1
   exact ⟨hz, by simpa using hne⟩
  ·have := h2.else_ i fun z hz e => hx ⟨z, hz, e⟩
   rw [gtO (by omega), gtO hi] at this
   exact absurd (Option.some.inj this).symm hne
 ·rintro ⟨hz, hk⟩
  obtain ⟨j, w1, w2, w3⟩ := h2.here z hz
  refine ⟨j, (List.getElem?_eq_some_iff.1 w2).1, ?_, ?_⟩
  ·rw [gtD w2, gtD w3]; simpa using hk
  ·rw [gtD w2, gtD w3, ← w1]
end Go.Proofs.Ytnibnbcmnaflmaa
namespace Go.Proofs.Ytnibnbcmnaflmaa
open Go.RowKit
set_option linter.unusedVariables false
set_option linter.unusedSimpArgs false
set_option linter.unnecessarySimpa false
set_option maxRecDepth 100000
set_option maxHeartbeats 64000000
section
attribute [local irreducible] AL AW RG Fin C Cd Cio thenQ blockQ retQ
set_option maxRecDepth 100000
theorem bkQ_len0 (l : List DXg) : (bkQ l 0).length = l.length := by rw [bkQ_len]; rfl
theorem diffBack_c (a b c : List Int) (ha : a.length ≤ 1048576) (hb : b.length ≤ 1048576) (hc : c.length ≤ 1048576) : Cd Try.prog 8 [.ln (a.map tU), .ln (b.map tU), .ln (c.map tU)] (bo true) [] := by
 have cA := awake39_c
 have h1 : (a.map tU).length = a.length := List.length_map _
 have h2 : (b.map tU).length = b.length := List.length_map _
 have h3 : (c.map tU).length = c.length := List.length_map _
 by_cases hab : a.length = b.length
 ·have c1 := dOf_c a b hab ha
  by_cases hbc : b.length = c.length
  ·have c2 := dOf_c b c hbc hb
   have c3 := dOf_c a c (by omega) ha
   have lL := ofQ_len a b a.length
   have lM := ofQ_len b c b.length
   have lN := ofQ_len a c a.length
   obtain ⟨e1, e2⟩ := of_apply hab
   obtain ⟨e3, e4⟩ := back_apply hab
   obtain ⟨e5, e6⟩ := of_apply hbc
   obtain ⟨e7, e8⟩ := of_apply (a := a) (b := c) (by omega)
   have e9 : apE a (ofQ a b a.length ++ ofQ b c b.length) (ofQ a b a.length ++ ofQ b c b.length).length = 0 := apE_app e1 (by rw [e2]; exact e5)
   obtain ⟨t1, t2⟩ := then_of e9
   have e10 : apC a (ofQ a b a.length ++ ofQ b c b.length) (ofQ a b a.length ++ ofQ b c b.length).length = c := by rw [List.length_append, apC_app, e2, e6]
   rw [e10] at t2
   have c4 := dApply_c a (ofQ a b a.length) ha (by omega)
   have cB := dBack_c (ofQ a b a.length) (by omega)
   have lB := bkQ_len0 (ofQ a b a.length)
   have c5 := dApply_c b (bkQ (ofQ a b a.length) 0) hb (by omega)
   have c6 := dThen_c (ofQ a b a.length) (ofQ b c b.length) (by omega) (by omega)
   have c7 := dApply_c a (ofQ a c a.length) ha (by omega)
   have p1 := plain39_c (ofQ a c a.length) (by omega)
   have s1 := same39_c (ofQ a c a.length) (by omega)
   have w1 := words39 b hb
   have w2 := words39 a ha
   have w3 := words39 c hc
   unfold apA at c4 c5 c7
   unfold thA at c6
   rw [if_pos e1, e2] at c4
   rw [if_pos e3, e4] at c5
   rw [if_pos e7, e8] at c7
   rw [if_pos t1, t2] at c6
   clear e1 e2 e3 e4 e5 e6 e7 e8 e9 e10 t1 t2 lL lM lN lB
   generalize bkQ (ofQ a b a.length) 0 = B at *
   generalize ofQ a b a.length = L at *
   generalize ofQ b c b.length = M at *
   generalize ofQ a c a.length = N at *
   refine Cd.enter' Try.func8 rfl Try.ntmps8 rfl ?_
   repeat' (first | ((with_reducible refine kAL ?_); (first | (refine kL 1066 rfl ?_; first | refine uK (c1) ?_ | refine uK (c2) ?_ | refine uK (c3) ?_) | (refine kL 810 rfl ?_; first | refine uK (cA) ?_) | (refine kL 1130 rfl ?_; first | refine uK (c4) ?_ | refine uK (c5) ?_ | refine uK (c7) ?_) | (refine kL 1226 rfl ?_; first | refine uK (cB) ?_) | (refine kL 682 rfl ?_; first | refine uK (c6) ?_) | (refine kL 1194 rfl ?_; first | refine uK (w1) ?_ | refine uK (w2) ?_ | refine uK (w3) ?_) | (refine kL 746 rfl ?_; first | refine uK (p1) ?_) | (refine kL 778 rfl ?_; first | refine uK (s1) ?_) | refine uA ?_ | refine uS 35 (fun hb => ?_) (fun hb => ?_) | refine uS 44 (fun hb => ?_) (fun hb => ?_) | refine uS 51 (fun hb => ?_) (fun hb => ?_) | refine uS 87 (fun hb => ?_) (fun hb => ?_) | refine uS 91 (fun hb => ?_) (fun hb => ?_) | refine uS 95 (fun hb => ?_) (fun hb => ?_) | refine uS 99 (fun hb => ?_) (fun hb => ?_) | refine uS 104 (fun hb => ?_) (fun hb => ?_) | refine uS 109 (fun hb => ?_) (fun hb => ?_) | refine uS 114 (fun hb => ?_) (fun hb => ?_) | refine uS 120 (fun hb => ?_) (fun hb => ?_))) | refine uC ?_ | refine kcp rfl (fun hc => ?_) (fun hc => ?_) | refine kcn rfl (fun hc => ?_) (fun hc => ?_) | refine kcb rfl (fun hc => ?_) (fun hc => ?_) | refine kcc rfl (fun hc => ?_) (fun hc => ?_) | fail)
   all_goals first | (exfalso; omega) | ((first | exact Fin.q Try.results8 (.cons (.tmp rfl) .nil) [] | refine Fin.q Try.results8 (.cons (.tmp rfl) .nil) [] (hr := (.t ?_)) | refine Fin.mkv (rs := _) Try.results8 (.cons (.tmp rfl) .nil) [] (by decide) rfl ?_ ?_ ?_ <;> repeat' (skip; first | exact .nil | refine .cons rfl ?_ ?_ | refine .cons ?_ ?_ | refine .row ?_ | refine .rset ?_ | refine .box ?_ | exact .gone | refine .aggL ?_ | refine .tupL ?_ | refine .old rfl ?_ | refine .new rfl rfl rfl ?_ | exact .nl | exact .optr rfl | exact .nptr rfl rfl rfl | refine .t ?_ | exact .any _ | rfl)))
  ·have c2 := dOf_cx b c hbc hb hc
   generalize ofQ a b a.length = L at *
   refine Cd.enter' Try.func8 rfl Try.ntmps8 rfl ?_
   repeat' (first | ((with_reducible refine kAL ?_); (first | (refine kL 1066 rfl ?_; first | refine uK (c1) ?_ | refine uK (c2) ?_) | (refine kL 810 rfl ?_; first | refine uK (cA) ?_) | refine uA ?_ | refine uS 35 (fun hb => ?_) (fun hb => ?_) | refine uS 44 (fun hb => ?_) (fun hb => ?_) | refine uS 51 (fun hb => ?_) (fun hb => ?_) | refine uS 87 (fun hb => ?_) (fun hb => ?_) | refine uS 91 (fun hb => ?_) (fun hb => ?_) | refine uS 95 (fun hb => ?_) (fun hb => ?_) | refine uS 99 (fun hb => ?_) (fun hb => ?_) | refine uS 104 (fun hb => ?_) (fun hb => ?_) | refine uS 109 (fun hb => ?_) (fun hb => ?_) | refine uS 114 (fun hb => ?_) (fun hb => ?_) | refine uS 120 (fun hb => ?_) (fun hb => ?_))) | refine uC ?_ | refine kcp rfl (fun hc => ?_) (fun hc => ?_) | refine kcn rfl (fun hc => ?_) (fun hc => ?_) | refine kcb rfl (fun hc => ?_) (fun hc => ?_) | refine kcc rfl (fun hc => ?_) (fun hc => ?_) | fail)
   all_goals first | (exfalso; omega) | ((first | exact Fin.q Try.results8 (.cons (.tmp rfl) .nil) [] | refine Fin.q Try.results8 (.cons (.tmp rfl) .nil) [] (hr := (.t ?_)) | refine Fin.mkv (rs := _) Try.results8 (.cons (.tmp rfl) .nil) [] (by decide) rfl ?_ ?_ ?_ <;> repeat' (skip; first | exact .nil | refine .cons rfl ?_ ?_ | refine .cons ?_ ?_ | refine .row ?_ | refine .rset ?_ | refine .box ?_ | exact .gone | refine .aggL ?_ | refine .tupL ?_ | refine .old rfl ?_ | refine .new rfl rfl rfl ?_ | exact .nl | exact .optr rfl | exact .nptr rfl rfl rfl | refine .t ?_ | exact .any _ | rfl)))
 ·have c1 := dOf_cx a b hab ha hb
  by_cases hbc : b.length = c.length
  ·have c2 := dOf_c b c hbc hb
   generalize ofQ b c b.length = M at *
   refine Cd.enter' Try.func8 rfl Try.ntmps8 rfl ?_
   repeat' (first | ((with_reducible refine kAL ?_); (first | (refine kL 1066 rfl ?_; first | refine uK (c1) ?_ | refine uK (c2) ?_) | (refine kL 810 rfl ?_; first | refine uK (cA) ?_) | refine uA ?_ | refine uS 35 (fun hb => ?_) (fun hb => ?_) | refine uS 44 (fun hb => ?_) (fun hb => ?_) | refine uS 51 (fun hb => ?_) (fun hb => ?_) | refine uS 87 (fun hb => ?_) (fun hb => ?_) | refine uS 91 (fun hb => ?_) (fun hb => ?_) | refine uS 95 (fun hb => ?_) (fun hb => ?_) | refine uS 99 (fun hb => ?_) (fun hb => ?_) | refine uS 104 (fun hb => ?_) (fun hb => ?_) | refine uS 109 (fun hb => ?_) (fun hb => ?_) | refine uS 114 (fun hb => ?_) (fun hb => ?_) | refine uS 120 (fun hb => ?_) (fun hb => ?_))) | refine uC ?_ | refine kcp rfl (fun hc => ?_) (fun hc => ?_) | refine kcn rfl (fun hc => ?_) (fun hc => ?_) | refine kcb rfl (fun hc => ?_) (fun hc => ?_) | refine kcc rfl (fun hc => ?_) (fun hc => ?_) | fail)
   all_goals first | (exfalso; omega) | ((first | exact Fin.q Try.results8 (.cons (.tmp rfl) .nil) [] | refine Fin.q Try.results8 (.cons (.tmp rfl) .nil) [] (hr := (.t ?_)) | refine Fin.mkv (rs := _) Try.results8 (.cons (.tmp rfl) .nil) [] (by decide) rfl ?_ ?_ ?_ <;> repeat' (skip; first | exact .nil | refine .cons rfl ?_ ?_ | refine .cons ?_ ?_ | refine .row ?_ | refine .rset ?_ | refine .box ?_ | exact .gone | refine .aggL ?_ | refine .tupL ?_ | refine .old rfl ?_ | refine .new rfl rfl rfl ?_ | exact .nl | exact .optr rfl | exact .nptr rfl rfl rfl | refine .t ?_ | exact .any _ | rfl)))
  ·have c2 := dOf_cx b c hbc hb hc
   refine Cd.enter' Try.func8 rfl Try.ntmps8 rfl ?_
   repeat' (first | ((with_reducible refine kAL ?_); (first | (refine kL 1066 rfl ?_; first | refine uK (c1) ?_ | refine uK (c2) ?_) | (refine kL 810 rfl ?_; first | refine uK (cA) ?_) | refine uA ?_ | refine uS 35 (fun hb => ?_) (fun hb => ?_) | refine uS 44 (fun hb => ?_) (fun hb => ?_) | refine uS 51 (fun hb => ?_) (fun hb => ?_) | refine uS 87 (fun hb => ?_) (fun hb => ?_) | refine uS 91 (fun hb => ?_) (fun hb => ?_) | refine uS 95 (fun hb => ?_) (fun hb => ?_) | refine uS 99 (fun hb => ?_) (fun hb => ?_) | refine uS 104 (fun hb => ?_) (fun hb => ?_) | refine uS 109 (fun hb => ?_) (fun hb => ?_) | refine uS 114 (fun hb => ?_) (fun hb => ?_) | refine uS 120 (fun hb => ?_) (fun hb => ?_))) | refine uC ?_ | refine kcp rfl (fun hc => ?_) (fun hc => ?_) | refine kcn rfl (fun hc => ?_) (fun hc => ?_) | refine kcb rfl (fun hc => ?_) (fun hc => ?_) | refine kcc rfl (fun hc => ?_) (fun hc => ?_) | fail)
   all_goals first | (exfalso; omega) | ((first | exact Fin.q Try.results8 (.cons (.tmp rfl) .nil) [] | refine Fin.q Try.results8 (.cons (.tmp rfl) .nil) [] (hr := (.t ?_)) | refine Fin.mkv (rs := _) Try.results8 (.cons (.tmp rfl) .nil) [] (by decide) rfl ?_ ?_ ?_ <;> repeat' (skip; first | exact .nil | refine .cons rfl ?_ ?_ | refine .cons ?_ ?_ | refine .row ?_ | refine .rset ?_ | refine .box ?_ | exact .gone | refine .aggL ?_ | refine .tupL ?_ | refine .old rfl ?_ | refine .new rfl rfl rfl ?_ | exact .nl | exact .optr rfl | exact .nptr rfl rfl rfl | refine .t ?_ | exact .any _ | rfl)))
end
end Go.Proofs.Ytnibnbcmnaflmaa
