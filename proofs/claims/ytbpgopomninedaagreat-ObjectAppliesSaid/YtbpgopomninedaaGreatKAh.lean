/- Joined: XTFirst, XTFirstR. -/
import Derived.Test.YtbpgopomninedaaGreatKAg
import Derived.Test.YtbpgopomninedaaGreatKAc
namespace Go.Proofs.YtbpgopomninedaaGreat
open Go.RowKit
set_option linter.unusedVariables false
set_option linter.unusedSimpArgs false
set_option linter.unnecessarySimpa false
set_option maxRecDepth 100000
set_option maxHeartbeats 64000000
section
attribute [local irreducible] AL AW RG Fin C Cd Cio thenQ blockQ retQ
set_option maxRecDepth 100000
theorem idxF_c (f : FuncId) (fi cap : List AV) (p : DCase → Bool) (hg : ∀ c : DCase, CV Tryz.prog (.fn (.func f) fi cap) [.agg ((tCs c).map .t)] (.t (.v (.bool (p c)))) []) (hup : upB (keepG 0) (.fn (.func f) fi cap) = .fn (.func f) fi cap)
  (l : List DCase) (hl : l.length ≤ 1152921504606846976) : Cd Tryz.prog 160 [.ln (l.map tCs), .fn (.func f) fi cap] (i64 (ixF p l)) [] := by
 have h1 : (l.map tCs).length = l.length := List.length_map _
 refine Cd.enter' Tryz.func160 rfl Tryz.ntmps160 rfl ?_
 repeat' (first | refine uA ?_ | refine uC ?_ | fail)
 refine AW.loopP (fun (q : Nat) => q ≤ l.length ∧ ∀ j, j < q → ∀ b, l[j]? = some b → p b = false) (fun (q : Nat) => (pu (pu (pu (pu (fun _ => .any) 0 (.ln (l.map tCs))) 1 (.fn (.func f) fi cap)) 7 (i64 (l.map tCs).length)) 8 (i64 q))) (fun (q : Nat) => []) (fun (q : Nat) => l.length - q) (0) ?_ ?_ ?_
 ·exact ⟨Nat.zero_le _, fun j hj => by omega⟩
 ·exact Wk.cq 0
 ·rintro q ⟨h2, h3⟩
  by_cases hq : q < l.length
  ·obtain ⟨a, ha⟩ : ∃ a, l[q]? = some a := ⟨_, List.getElem?_eq_getElem hq⟩
   have c1 := hg a
   cases hp : p a
   ·rw [hp] at c1
    repeat' (first | ((with_reducible refine kAL ?_); (first | refine uV (c1) ?_ | refine uA ?_)) | refine uC ?_ | fail)
    all_goals first | (exfalso; omega) | skip
    refine ⟨q + 1, ⟨by omega, fun j hj b hb => ?_⟩, by omega, ?_⟩
    ·by_cases e : j = q
     ·subst e; rw [ha] at hb; cases hb; exact hp
     ·exact h3 j (by omega) b hb
    ·exact Wk.cq 0
   ·rw [hp] at c1
    rw [ixF_at p l q a h3 ha hp]
    repeat' (first | ((with_reducible refine kAL ?_); (first | refine uV (c1) ?_ | refine uA ?_)) | refine uC ?_ | fail)
    all_goals first | (exfalso; omega) | (exact Fin.q Tryz.results160 (.cons (.tmp rfl) .nil) [])
  ·rw [ixF_none p l fun j b hb => h3 j (by have := get_lt hb; omega) b hb]
   repeat' (first | refine uA ?_ | refine uC ?_ | fail)
   all_goals first | (exfalso; omega) | (exact Fin.q Tryz.results160 (.cons (.tmp rfl) .nil) [])
theorem has1_c (d h : Int) (c : DCase) : Cd Tryz.prog 176 [.agg ((tCs c).map .t), .lp [i64 d], .lp [i64 h]] (bo (isC d h c)) [] := by
 obtain ⟨a, b, v⟩ := c
 by_cases p1 : a = d <;> by_cases p2 : b = h
 all_goals
  refine Cd.enter' Tryz.func176 rfl Tryz.ntmps176 rfl ?_
  repeat' (first | refine uA ?_ | refine uC ?_ | fail)
  all_goals first | (exfalso; omega) | (refine Fin.q Tryz.results176 (.cons (.tmp rfl) .nil) [] (hr := (.t ?_)))
  all_goals first | (simp [isC, *]; done) | skip
theorem whas_c (w : DWait) (d h : Int) (hw : w.cases.length ≤ 1152921504606846976) : Cd Tryz.prog 171 [.agg [bo w.on, i64 w.ticket, i64 w.seq, .ln (w.cases.map tCs)], i64 d, i64 h] (.tup [i64 (max (ixF (isC d h) w.cases) 0), bo (decide (0 ≤ ixF (isC d h) w.cases) && w.on)]) [] := by
 have c1 := idxF_c 176 [] [.lp [i64 d], .lp [i64 h]] (isC d h) (fun c => ⟨_, _, [], [.lp [i64 d], .lp [i64 h]], rfl, Tryz.func176, by kernel_rfl, by kernel_rfl, fun _ => .nil, fun _ => .cons (.lpL (.cons (.t _) .nil)) (.cons (.lpL (.cons (.t _) .nil)) .nil), has1_c d h c⟩) rfl w.cases hw
 obtain ⟨on, tk, sq, cs⟩ := w
 dsimp only at c1 hw ⊢
 generalize ixF (isC d h) cs = z at c1 ⊢
 by_cases hz : 0 ≤ z
 all_goals
  cases on
  all_goals
   refine Cd.enter' Tryz.func171 rfl Tryz.ntmps171 rfl ?_
   repeat' (first | ((with_reducible refine kAL ?_); (first | refine uK (c1) ?_ | refine uA ?_)) | refine uR ?_ | refine uC ?_ | refine AW.drawU (id := 2) mixed 0 qR ?_ | fail)
   all_goals first | (exfalso; omega) | (refine Fin.q Tryz.results171 (.cons (.tmp rfl) (.cons (.tmp rfl) .nil)) [] (hr := (.tupL (.cons (.t ?_) (.cons (.t ?_) .nil)))))
   all_goals first | (simp [*]; done) | skip
theorem firK_next {l : List DWait} {d h : Int} {k : Nat} {a : DWait} (ha : l[k]? = some a) : firK l d h (k + 1) = if a.on = true ∧ 0 ≤ ixF (isC d h) a.cases ∧ ((firK l d h k).ok = false ∨ a.ticket < (l.getD (firK l d h k).th.toNat default).ticket) then ⟨k, ixF (isC d h) a.cases, true⟩ else firK l d h k := by
 rw [firK, getD_of ha]
def fir (l : List DWait) (d h : Int) : FS := firK l d h l.length
theorem first_c (l : List DWait) (d h : Int) (hl : okW l) : Cd Tryz.prog 157 [.ln (l.map tWt), i64 d, i64 h] (.tup [i64 (fir l d h).th, i64 (fir l d h).wh, bo (fir l d h).ok]) [] := by
 have h0 := hl.1
 have h1 : (l.map tWt).length = l.length := List.length_map _
 first | refine Cd.enter' Tryz.func157 rfl Tryz.ntmps157 rfl ?_ | refine Cio.enter' Tryz.func157 rfl Tryz.ntmps157 rfl qM ?_ | refine C.enter' Tryz.func157 rfl Tryz.ntmps157 rfl qM ?_
 repeat' (first | refine uA ?_ | refine uC ?_ | fail)
 refine AW.loopP (fun (x : Nat × FS) => x.1 ≤ l.length ∧ x.2 = firK l d h x.1) (fun (x : Nat × FS) => (pu (pu (pu (pu (pu (pu (pu (pu (pu (fun _ => .any) 0 (.ln (l.map tWt))) 1 (i64 d)) 2 (i64 h)) 6 (i64 x.2.th)) 7 (i64 x.2.wh)) 8 (bo x.2.ok)) 13 (.ln (l.map tWt))) 14 (i64 (l.map tWt).length)) 15 (i64 x.1))) (fun (x : Nat × FS) => []) (fun (x : Nat × FS) => l.length - x.1) ((0, ⟨0, 0, false⟩)) ?_ ?_ ?_
 ·exact ⟨Nat.zero_le _, rfl⟩
 ·exact Wk.cq 0
 ·rintro ⟨q, s⟩ ⟨h2, h3⟩
  dsimp only at h2 h3 ⊢
  by_cases hq : q < l.length
  ·obtain ⟨a, ha⟩ : ∃ a, l[q]? = some a := ⟨_, List.getElem?_eq_getElem hq⟩
   have hn := firK_next (d := d) (h := h) ha
   have hk := firK_ok l d h q
   rw [← h3] at hn hk
   have cH := whas_c a d h (by have := hl.at ha; omega)
   obtain ⟨th, wh, ok⟩ := s
   dsimp only at hn hk ⊢
   by_cases hc1 : a.on = true ∧ 0 ≤ ixF (isC d h) a.cases
   ·rw [show (decide (0 ≤ ixF (isC d h) a.cases) && a.on) = true by rw [decide_eq_true hc1.2, hc1.1]; rfl, Int.max_eq_left hc1.2] at cH
    cases ok
    ·rw [if_pos ⟨hc1.1, hc1.2, .inl rfl⟩] at hn
     repeat' (first | ((with_reducible refine kAL ?_); (first | refine uK (cH) ?_ | refine uA ?_)) | refine uR ?_ | refine uC ?_ | refine AW.drawU (id := 5) mixed 0 qR ?_ | fail)
     all_goals first | (exfalso; omega) | (refine ⟨(q + 1, ⟨q, ixF (isC d h) a.cases, true⟩), ⟨by dsimp only; omega, hn.symm⟩, by dsimp only; omega, ?_⟩; (exact Wk.cq 0); done)
    ·rcases hk with ⟨hk, _⟩ | ⟨_, t, rfl, ht, ho, hw, hwn⟩
     ·cases hk
     ·obtain ⟨b, hb⟩ : ∃ b, l[t]? = some b := ⟨_, List.getElem?_eq_getElem (by omega)⟩
      rw [Int.toNat_natCast, getD_of hb] at hn
      by_cases htk : a.ticket < b.ticket
      ·rw [if_pos ⟨hc1.1, hc1.2, .inr htk⟩] at hn
       repeat' (first | ((with_reducible refine kAL ?_); (first | refine uK (cH) ?_ | refine uA ?_)) | refine uR ?_ | refine uC ?_ | refine AW.drawU (id := 5) mixed 0 qR ?_ | fail)
       all_goals first | (exfalso; omega) | (refine ⟨(q + 1, ⟨q, ixF (isC d h) a.cases, true⟩), ⟨by dsimp only; omega, hn.symm⟩, by dsimp only; omega, ?_⟩; (exact Wk.cq 0); done)
      ·rw [if_neg (fun k => by have := k.2.2; simp [htk] at this)] at hn
       repeat' (first | ((with_reducible refine kAL ?_); (first | refine uK (cH) ?_ | refine uA ?_)) | refine uR ?_ | refine uC ?_ | refine AW.drawU (id := 5) mixed 0 qR ?_ | fail)
       all_goals first | (exfalso; omega) | (refine ⟨(q + 1, ⟨t, wh, true⟩), ⟨by dsimp only; omega, hn.symm⟩, by dsimp only; omega, ?_⟩; (exact Wk.cq 0); done)
   ·rw [if_neg (fun k => hc1 ⟨k.1, k.2.1⟩)] at hn
    rw [show (decide (0 ≤ ixF (isC d h) a.cases) && a.on) = false by
     cases ha2 : a.on
     ·simp
     ·rw [decide_eq_false (fun k => hc1 ⟨ha2, k⟩)]; rfl] at cH
    cases ok
    all_goals
     repeat' (first | ((with_reducible refine kAL ?_); (first | refine uK (cH) ?_ | refine uA ?_)) | refine uR ?_ | refine uC ?_ | refine AW.drawU (id := 5) mixed 0 qR ?_ | fail)
     all_goals first | (exfalso; omega) | (refine ⟨(q + 1, ⟨th, wh, _⟩), ⟨by dsimp only; omega, hn.symm⟩, by dsimp only; omega, ?_⟩; (exact Wk.cq 0); done)
  ·have e : q = l.length := by omega
   subst e
   subst h3
   repeat' (first | refine uA ?_ | refine uC ?_ | fail)
   all_goals first | (exfalso; omega) | (exact Fin.q Tryz.results157 (.cons (.tmp rfl) (.cons (.tmp rfl) (.cons (.tmp rfl) .nil))) [])
def plI (w : DWait) (p : DCase → Bool) : Int := if w.on then ixF p w.cases else -1
def isP (d h : Int) (c : DCase) : Bool := decide (c.handle = h ∧ (d = 0 ∨ c.dir = d))
theorem place_c (w : DWait) (d h : Int) (hw : w.cases.length ≤ 1152921504606846976) : Cd Tryz.prog 163 [.agg [bo w.on, i64 w.ticket, i64 w.seq, .ln (w.cases.map tCs)], i64 d, i64 h] (i64 (plI w (isP d h))) [] := by
 obtain ⟨on, tk, sq, cs⟩ := w
 dsimp only at hw ⊢
 have h1 : (cs.map tCs).length = cs.length := List.length_map _
 refine Cd.enter' Tryz.func163 rfl Tryz.ntmps163 rfl ?_
 repeat' (first | refine uA ?_ | refine uC ?_ | fail)
 refine AW.loopP (fun (q : Nat) => q ≤ cs.length ∧ ∀ j, j < q → on = true → ∀ b, cs[j]? = some b → isP d h b = false) (fun (q : Nat) => (pu (pu (pu (pu (pu (pu (fun _ => .any) 1 (i64 d)) 2 (i64 h)) 3 (.ptr 0 0)) 10 (.ln (cs.map tCs))) 11 (i64 (cs.map tCs).length)) 12 (i64 q))) (fun (q : Nat) => [.box 90 [bo on, i64 tk, i64 sq, .ln (cs.map tCs)]]) (fun (q : Nat) => cs.length - q) (0) ?_ ?_ ?_
 ·exact ⟨Nat.zero_le _, fun j hj => by omega⟩
 ·exact Wk.cq 1
 ·rintro q ⟨h2, h3⟩
  by_cases hq : q < cs.length
  ·obtain ⟨⟨a1, a2, a3⟩, ha⟩ : ∃ a, cs[q]? = some a := ⟨_, List.getElem?_eq_getElem hq⟩
   cases on
   ·repeat' (first | refine uA ?_ | refine uC ?_ | fail)
    all_goals first | (exfalso; omega) | skip
    refine ⟨q + 1, ⟨by omega, fun j hj ho => by cases ho⟩, by omega, ?_⟩
    exact Wk.cq 1
   ·by_cases hp : a2 = h ∧ (d = 0 ∨ a1 = d)
    ·rw [show plI ⟨true, tk, sq, cs⟩ (isP d h) = q from ixF_at _ cs q _ (fun j hj b hb => h3 j hj rfl b hb) ha (by simp only [isP]; exact decide_eq_true hp)]
     by_cases p1 : d = 0
     all_goals
      repeat' (first | refine uA ?_ | refine uC ?_ | fail)
      all_goals first | (exfalso; omega) | (exact Fin.q Tryz.results163 (.cons (.tmp rfl) .nil) [])
    ·by_cases p1 : d = 0 <;> by_cases p2 : a2 = h
     all_goals
      repeat' (first | refine uA ?_ | refine uC ?_ | fail)
      all_goals first | (exfalso; omega) | skip
      all_goals
       refine ⟨q + 1, ⟨by omega, fun j hj ho b hb => ?_⟩, by omega, ?_⟩
       ·by_cases e : j = q
        ·subst e; rw [ha] at hb; cases hb; exact decide_eq_false hp
        ·exact h3 j (by omega) ho b hb
       ·exact Wk.cq 1
  ·rw [show plI ⟨on, tk, sq, cs⟩ (isP d h) = -1 by
    unfold plI
    cases on
    ·rfl
    ·exact ixF_none _ cs fun j b hb => h3 j (by have := get_lt hb; omega) rfl b hb]
   repeat' (first | refine uA ?_ | refine uC ?_ | fail)
   all_goals first | (exfalso; omega) | (exact Fin.q Tryz.results163 (.cons (.tmp rfl) .nil) [])
theorem zero_c (w : DWait) (h : Int) (hw : w.cases.length ≤ 1152921504606846976) : Cd Tryz.prog 164 [.agg [bo w.on, i64 w.ticket, i64 w.seq, .ln (w.cases.map tCs)], i64 h] (i64 (plI w (isC 0 h))) [] := by
 obtain ⟨on, tk, sq, cs⟩ := w
 dsimp only at hw ⊢
 have h1 : (cs.map tCs).length = cs.length := List.length_map _
 refine Cd.enter' Tryz.func164 rfl Tryz.ntmps164 rfl ?_
 repeat' (first | refine uA ?_ | refine uC ?_ | fail)
 refine AW.loopP (fun (q : Nat) => q ≤ cs.length ∧ ∀ j, j < q → on = true → ∀ b, cs[j]? = some b → isC 0 h b = false) (fun (q : Nat) => (pu (pu (pu (pu (pu (fun _ => .any) 1 (i64 h)) 2 (.ptr 0 0)) 8 (.ln (cs.map tCs))) 9 (i64 (cs.map tCs).length)) 10 (i64 q))) (fun (q : Nat) => [.box 90 [bo on, i64 tk, i64 sq, .ln (cs.map tCs)]]) (fun (q : Nat) => cs.length - q) (0) ?_ ?_ ?_
 ·exact ⟨Nat.zero_le _, fun j hj => by omega⟩
 ·exact Wk.cq 1
 ·rintro q ⟨h2, h3⟩
  by_cases hq : q < cs.length
  ·obtain ⟨⟨a1, a2, a3⟩, ha⟩ : ∃ a, cs[q]? = some a := ⟨_, List.getElem?_eq_getElem hq⟩
   cases on
   ·repeat' (first | refine uA ?_ | refine uC ?_ | fail)
    all_goals first | (exfalso; omega) | skip
    refine ⟨q + 1, ⟨by omega, fun j hj ho => by cases ho⟩, by omega, ?_⟩
    exact Wk.cq 1
   ·by_cases hp : a1 = 0 ∧ a2 = h
    ·rw [show plI ⟨true, tk, sq, cs⟩ (isC 0 h) = q from ixF_at _ cs q _ (fun j hj b hb => h3 j hj rfl b hb) ha (by simp only [isC]; exact decide_eq_true hp)]
     repeat' (first | refine uA ?_ | refine uC ?_ | fail)
     all_goals first | (exfalso; omega) | (exact Fin.q Tryz.results164 (.cons (.tmp rfl) .nil) [])
    ·by_cases p1 : a1 = 0
     all_goals
      repeat' (first | refine uA ?_ | refine uC ?_ | fail)
      all_goals first | (exfalso; omega) | skip
      all_goals
       refine ⟨q + 1, ⟨by omega, fun j hj ho b hb => ?_⟩, by omega, ?_⟩
       ·by_cases e : j = q
        ·subst e; rw [ha] at hb; cases hb; exact decide_eq_false hp
        ·exact h3 j (by omega) ho b hb
       ·exact Wk.cq 1
  ·rw [show plI ⟨on, tk, sq, cs⟩ (isC 0 h) = -1 by
    unfold plI
    cases on
    ·rfl
    ·exact ixF_none _ cs fun j b hb => h3 j (by have := get_lt hb; omega) rfl b hb]
   repeat' (first | refine uA ?_ | refine uC ?_ | fail)
   all_goals first | (exfalso; omega) | (exact Fin.q Tryz.results164 (.cons (.tmp rfl) .nil) [])
end
section
attribute [local irreducible] AL AW RG Fin C Cd Cio thenQ blockQ retQ
set_option maxRecDepth 100000
theorem ixF_congr {α : Type} {p q : α → Bool} (h : ∀ a, p a = q a) (l : List α) : ixF p l = ixF q l := by
 rw [show p = q from funext h]
theorem firstR_c (l : List DWait) (d h : Int) (hl : okW l) : Cd Tryz.prog 147 [.ln (l.map tWt), i64 d, i64 h] (.tup [i64 (fir l d h).th, i64 (fir l d h).wh, bo (fir l d h).ok]) [] := by
 have h0 := hl.1
 have h1 : (l.map tWt).length = l.length := List.length_map _
 first | refine Cd.enter' Tryz.func147 rfl Tryz.ntmps147 rfl ?_ | refine Cio.enter' Tryz.func147 rfl Tryz.ntmps147 rfl qM ?_ | refine C.enter' Tryz.func147 rfl Tryz.ntmps147 rfl qM ?_
 repeat' (first | refine uA ?_ | refine uC ?_ | fail)
 refine AW.loopP (fun (x : Nat × FS × Int) => x.1 ≤ l.length ∧ x.2.1 = firK l d h x.1 ∧ x.2.2 = if x.2.1.ok then x.2.1.th else -1) (fun (x : Nat × FS × Int) => (pu (pu (pu (pu (pu (pu (pu (pu (fun _ => .any) 0 (.ln (l.map tWt))) 1 (i64 d)) 2 (i64 h)) 9 (i64 x.2.2)) 10 (i64 x.2.1.wh)) 15 (.ln (l.map tWt))) 16 (i64 (l.map tWt).length)) 17 (i64 x.1))) (fun (x : Nat × FS × Int) => []) (fun (x : Nat × FS × Int) => l.length - x.1) ((0, ⟨0, 0, false⟩, -1)) ?_ ?_ ?_
 ·exact ⟨Nat.zero_le _, rfl, rfl⟩
 ·exact Wk.cq 0
 ·rintro ⟨q, s, be⟩ ⟨h2, h3, h4⟩
  dsimp only at h2 h3 h4 ⊢
  by_cases hq : q < l.length
  ·obtain ⟨a, ha⟩ : ∃ a, l[q]? = some a := ⟨_, List.getElem?_eq_getElem hq⟩
   have hn := firK_next (d := d) (h := h) ha
   have hk := firK_ok l d h q
   rw [← h3] at hn hk
   obtain ⟨ix, hix⟩ : ∃ ix, ixF (isC d h) a.cases = ix := ⟨_, rfl⟩
   have hixb : -1 ≤ ix := by rw [← hix]; exact (ixF_b _ _).1
   have hpl : plI a (isP d h) = (if a.on then ixF (isP d h) a.cases else -1) := rfl
   have cP := place_c a d h (by have := hl.at ha; omega)
   have cZ := zero_c a h (by have := hl.at ha; omega)
   obtain ⟨z, hz, hz1⟩ : ∃ z, (d ≠ 0 → plI a (isP d h) = z) ∧ ((d = 0 → plI a (isC 0 h) = z) ∧ z = if a.on then ix else -1) := by
    refine ⟨_, fun hd => ?_, fun hd => ?_, rfl⟩
    ·unfold plI
     rw [ixF_congr (q := isC d h) (fun c => by unfold isP isC; congr 1; apply propext; constructor; (rintro ⟨h1, h2 | h2⟩; exact absurd h2 hd; exact ⟨h2, h1⟩); exact fun k => ⟨k.2, .inr k.1⟩), hix]
    ·subst hd; unfold plI; rw [hix]
   obtain ⟨th, wh, ok⟩ := s
   dsimp only at hn hk h4 ⊢
   rw [hix] at hn
   by_cases hd : d = 0
   ·rw [hz1.1 hd] at cZ
    have hz2 := hz1.2
    clear hz hz1 hpl cP
    by_cases hc1 : a.on = true ∧ 0 ≤ ix
    ·rw [if_pos hc1.1] at hz2
     subst hz2
     cases ok
     ·rw [if_pos ⟨hc1.1, hc1.2, .inl rfl⟩] at hn
      rw [if_neg (by simp)] at h4
      subst h4
      repeat' (first | ((with_reducible refine kAL ?_); (first | refine uK (cZ) ?_ | refine uA ?_)) | refine uR ?_ | refine uC ?_ | refine AW.drawU (id := 11) mixed 0 qR ?_ | fail)
      all_goals first | (exfalso; omega) | (refine ⟨(q + 1, ⟨q, z, true⟩, q), ⟨by dsimp only; omega, hn.symm, rfl⟩, by dsimp only; omega, ?_⟩; (exact Wk.cq 0); done)
     ·rcases hk with ⟨hk, _⟩ | ⟨_, t, rfl, ht, ho, hw, hwn⟩
      ·cases hk
      ·obtain ⟨b, hb⟩ : ∃ b, l[t]? = some b := ⟨_, List.getElem?_eq_getElem (by omega)⟩
       rw [Int.toNat_natCast, getD_of hb] at hn
       rw [if_pos rfl] at h4
       subst h4
       by_cases htk : a.ticket < b.ticket
       ·rw [if_pos ⟨hc1.1, hc1.2, .inr htk⟩] at hn
        repeat' (first | ((with_reducible refine kAL ?_); (first | refine uK (cZ) ?_ | refine uA ?_)) | refine uR ?_ | refine uC ?_ | refine AW.drawU (id := 11) mixed 0 qR ?_ | fail)
        all_goals first | (exfalso; omega) | (refine ⟨(q + 1, ⟨q, z, true⟩, q), ⟨by dsimp only; omega, hn.symm, rfl⟩, by dsimp only; omega, ?_⟩; (exact Wk.cq 0); done)
       ·rw [if_neg (fun k => by have := k.2.2; simp [htk] at this)] at hn
        repeat' (first | ((with_reducible refine kAL ?_); (first | refine uK (cZ) ?_ | refine uA ?_)) | refine uR ?_ | refine uC ?_ | refine AW.drawU (id := 11) mixed 0 qR ?_ | fail)
        all_goals first | (exfalso; omega) | (refine ⟨(q + 1, ⟨t, wh, true⟩, t), ⟨by dsimp only; omega, hn.symm, rfl⟩, by dsimp only; omega, ?_⟩; (exact Wk.cq 0); done)
    ·rw [if_neg (fun k => hc1 ⟨k.1, k.2.1⟩)] at hn
     have hz3 : z < 0 := by
      rw [hz2]; split
      ·rename_i ho
       have : ¬ 0 ≤ ix := fun k => hc1 ⟨ho, k⟩
       omega
      ·omega
     clear hz2
     repeat' (first | ((with_reducible refine kAL ?_); (first | refine uK (cZ) ?_ | refine uA ?_)) | refine uR ?_ | refine uC ?_ | refine AW.drawU (id := 11) mixed 0 qR ?_ | fail)
     all_goals first | (exfalso; omega) | (refine ⟨(q + 1, ⟨th, wh, ok⟩, be), ⟨by dsimp only; omega, hn.symm, h4⟩, by dsimp only; omega, ?_⟩; (exact Wk.cq 0); done)
   ·rw [hz hd] at cP
    have hz2 := hz1.2
    clear hz hz1 hpl cZ
    by_cases hc1 : a.on = true ∧ 0 ≤ ix
    ·rw [if_pos hc1.1] at hz2
     subst hz2
     cases ok
     ·rw [if_pos ⟨hc1.1, hc1.2, .inl rfl⟩] at hn
      rw [if_neg (by simp)] at h4
      subst h4
      repeat' (first | ((with_reducible refine kAL ?_); (first | refine uK (cP) ?_ | refine uA ?_)) | refine uR ?_ | refine uC ?_ | refine AW.drawU (id := 11) mixed 0 qR ?_ | fail)
      all_goals first | (exfalso; omega) | (refine ⟨(q + 1, ⟨q, z, true⟩, q), ⟨by dsimp only; omega, hn.symm, rfl⟩, by dsimp only; omega, ?_⟩; (exact Wk.cq 0); done)
     ·rcases hk with ⟨hk, _⟩ | ⟨_, t, rfl, ht, ho, hw, hwn⟩
      ·cases hk
      ·obtain ⟨b, hb⟩ : ∃ b, l[t]? = some b := ⟨_, List.getElem?_eq_getElem (by omega)⟩
       rw [Int.toNat_natCast, getD_of hb] at hn
       rw [if_pos rfl] at h4
       subst h4
       by_cases htk : a.ticket < b.ticket
       ·rw [if_pos ⟨hc1.1, hc1.2, .inr htk⟩] at hn
        repeat' (first | ((with_reducible refine kAL ?_); (first | refine uK (cP) ?_ | refine uA ?_)) | refine uR ?_ | refine uC ?_ | refine AW.drawU (id := 11) mixed 0 qR ?_ | fail)
        all_goals first | (exfalso; omega) | (refine ⟨(q + 1, ⟨q, z, true⟩, q), ⟨by dsimp only; omega, hn.symm, rfl⟩, by dsimp only; omega, ?_⟩; (exact Wk.cq 0); done)
       ·rw [if_neg (fun k => by have := k.2.2; simp [htk] at this)] at hn
        repeat' (first | ((with_reducible refine kAL ?_); (first | refine uK (cP) ?_ | refine uA ?_)) | refine uR ?_ | refine uC ?_ | refine AW.drawU (id := 11) mixed 0 qR ?_ | fail)
        all_goals first | (exfalso; omega) | (refine ⟨(q + 1, ⟨t, wh, true⟩, t), ⟨by dsimp only; omega, hn.symm, rfl⟩, by dsimp only; omega, ?_⟩; (exact Wk.cq 0); done)
    ·rw [if_neg (fun k => hc1 ⟨k.1, k.2.1⟩)] at hn
     have hz3 : z < 0 := by
      rw [hz2]; split
      ·rename_i ho
       have : ¬ 0 ≤ ix := fun k => hc1 ⟨ho, k⟩
       omega
      ·omega
     clear hz2
     repeat' (first | ((with_reducible refine kAL ?_); (first | refine uK (cP) ?_ | refine uA ?_)) | refine uR ?_ | refine uC ?_ | refine AW.drawU (id := 11) mixed 0 qR ?_ | fail)
     all_goals first | (exfalso; omega) | (refine ⟨(q + 1, ⟨th, wh, ok⟩, be), ⟨by dsimp only; omega, hn.symm, h4⟩, by dsimp only; omega, ?_⟩; (exact Wk.cq 0); done)
  ·have e : q = l.length := by omega
   subst e
   subst h3
   have hk := firK_ok l d h l.length
   unfold fir
   generalize firK l d h l.length = s at *
   obtain ⟨th, wh, ok⟩ := s
   dsimp only at h4 hk ⊢
   cases ok
   ·rcases hk with ⟨_, rfl, rfl⟩ | ⟨hk, _⟩
    ·rw [if_neg (by simp)] at h4
     subst h4
     repeat' (first | refine uA ?_ | refine uC ?_ | fail)
     all_goals first | (exfalso; omega) | (exact Fin.q Tryz.results147 (.cons (.tmp rfl) (.cons (.tmp rfl) (.cons (.tmp rfl) .nil))) [])
    ·cases hk
   ·rcases hk with ⟨hk, _⟩ | ⟨_, t, rfl, ht, ho, hw, hwn⟩
    ·cases hk
    ·rw [if_pos rfl] at h4
     subst h4
     repeat' (first | refine uA ?_ | refine uC ?_ | fail)
     all_goals first | (exfalso; omega) | (exact Fin.q Tryz.results147 (.cons (.tmp rfl) (.cons (.tmp rfl) (.cons (.tmp rfl) .nil))) [])
end
end Go.Proofs.YtbpgopomninedaaGreat
