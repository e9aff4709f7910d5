/- Spans of calls: the plain law. -/
import Derived.Test.YtkichjejadkdgaaTData
namespace Go.Proofs.Ytkichjejadkdgaa
set_option linter.unusedVariables false
set_option linter.unusedSimpArgs false
set_option linter.unnecessarySimpa false
open Go.RowKit
/-- the last of the first k calls that is thread t's; -1: none -/
def lastK (l : List DSpan) (t : Int) : Nat → Int
  | 0 => -1
  | k + 1 => if (l.getD k default).thread = t then (k : Int) else lastK l t k
theorem lastK_lt (l : List DSpan) (t : Int) (k : Nat) : -1 ≤ lastK l t k ∧ lastK l t k < k := by
  induction k with
  | zero => simp [lastK]
  | succ k ih => unfold lastK; split <;> omega
def endAt (l : List DSpan) (t tm : Int) : List DSpan :=
  if 0 ≤ lastK l t l.length ∧ (l.getD (lastK l t l.length).toNat default).fin = 0 then l.set (lastK l t l.length).toNat ⟨(l.getD (lastK l t l.length).toNat default).thread, (l.getD (lastK l t l.length).toNat default).seq, (l.getD (lastK l t l.length).toNat default).beg, tm⟩ else l
theorem endAt_len (l : List DSpan) (t tm : Int) : (endAt l t tm).length = l.length := by unfold endAt; split <;> simp
def spansStep (out : List DSpan) (n : DNote) : List DSpan := if n.kind = 1 then out ++ [⟨n.thread, n.seq, n.time, 0⟩] else if n.kind = 3 then endAt out n.thread n.time else out
def spansOf (l : List DNote) : List DSpan := l.foldl spansStep []
theorem spansOf_next {l : List DNote} {q : Nat} {n : DNote} (h : l[q]? = some n) : spansOf (l.take (q + 1)) = spansStep (spansOf (l.take q)) n := by
  unfold spansOf
  rw [List.take_add_one, h, List.foldl_append]; rfl
theorem spansOf_len (l : List DNote) : (spansOf l).length ≤ l.length := by
  unfold spansOf
  suffices h : ∀ out : List DSpan, (l.foldl spansStep out).length ≤ out.length + l.length by simpa using h []
  induction l with
  | nil => intro out; simp
  | cons n l ih =>
    intro out
    have := ih (spansStep out n)
    have h2 : (spansStep out n).length ≤ out.length + 1 := by
      unfold spansStep; split
      · simp
      · split
        · rw [endAt_len]; omega
        · omega
    simp only [List.foldl_cons, List.length_cons]; omega
/-- two calls overlap -/
def ovl (a b : DSpan) : Bool := (decide (a.fin = 0) || decide (b.beg ≤ a.fin)) && (decide (b.fin = 0) || decide (a.beg ≤ b.fin))
theorem ovl_comm (a b : DSpan) : ovl a b = ovl b a := by unfold ovl; rw [Bool.and_comm]
def here (a b : DSpan) : Bool := decide (b.beg ≤ a.beg) && (decide (b.fin = 0) || decide (a.beg ≤ b.fin))
def cntK (l : List DSpan) (a : DSpan) : Nat → Int
  | 0 => 0
  | k + 1 => if here a (l.getD k default) then cntK l a k + 1 else cntK l a k
theorem cntK_le (l : List DSpan) (a : DSpan) (k : Nat) : 0 ≤ cntK l a k ∧ cntK l a k ≤ k := by
  induction k with
  | zero => simp [cntK]
  | succ k ih => unfold cntK; split <;> omega
def widK (l : List DSpan) : Nat → Int
  | 0 => 0
  | k + 1 => max (widK l k) (cntK l (l.getD k default) l.length)
def dur (a : DSpan) : Int := IntKind.i64.wrap (a.fin - a.beg)
def slowK (l : List DSpan) : Nat → Int
  | 0 => -1
  | k + 1 => if (l.getD k default).fin = 0 then slowK l k else if slowK l k < 0 ∨ dur (l.getD (slowK l k).toNat default) < dur (l.getD k default) then (k : Int) else slowK l k
theorem slowK_lt (l : List DSpan) (k : Nat) : -1 ≤ slowK l k ∧ slowK l k < k := by
  induction k with
  | zero => simp [slowK]
  | succ k ih => unfold slowK; split; · omega
                 split <;> omega
/-- from behind: when j are looked at -/
def slowD (l : List DSpan) : Nat → Int
  | 0 => -1
  | j + 1 => if (l.getD (l.length - 1 - j) default).fin ≠ 0 ∧ (slowD l j < 0 ∨ dur (l.getD (slowD l j).toNat default) ≤ dur (l.getD (l.length - 1 - j) default)) then ((l.length - 1 - j : Nat) : Int) else slowD l j
theorem slowD_lt (l : List DSpan) (j : Nat) (h : j ≤ l.length) : -1 ≤ slowD l j ∧ slowD l j < l.length := by
  induction j with
  | zero => simp [slowD]; omega
  | succ k ih => have := ih (by omega); unfold slowD; split <;> omega
/-- b is the first of the greatest of those between lo and hi -/
def FM (P : Nat → Prop) (d : Nat → Int) (b : Int) (lo hi : Nat) : Prop :=
  (b = -1 ∧ ∀ j, lo ≤ j → j < hi → ¬ P j) ∨ ∃ m : Nat, b = m ∧ lo ≤ m ∧ m < hi ∧ P m ∧ ∀ j, lo ≤ j → j < hi → P j → d j ≤ d m ∧ (j < m → d j < d m)
theorem fm_unique {P : Nat → Prop} {d : Nat → Int} {b c : Int} {lo hi : Nat} (hb : FM P d b lo hi) (hc : FM P d c lo hi) : b = c := by
  rcases hb with ⟨rfl, hb⟩ | ⟨m, rfl, h1, h2, h3, h4⟩ <;> rcases hc with ⟨rfl, hc⟩ | ⟨m', rfl, k1, k2, k3, k4⟩
  · rfl
  · exact absurd k3 (hb m' k1 k2)
  · exact absurd h3 (hc m h1 h2)
  · have a := h4 m' k1 k2 k3
    have b := k4 m h1 h2 h3
    rcases Nat.lt_trichotomy m m' with h | h | h
    · have := b.2 h; omega
    · rw [h]
    · have := a.2 h; omega
theorem slowK_fm (l : List DSpan) (k : Nat) : FM (fun j => (l.getD j default).fin ≠ 0) (fun j => dur (l.getD j default)) (slowK l k) 0 k := by
  induction k with
  | zero => exact .inl ⟨rfl, fun j _ h => by omega⟩
  | succ k ih =>
    unfold slowK
    by_cases h : (l.getD k default).fin = 0
    · rw [if_pos h]
      rcases ih with ⟨e, ih⟩ | ⟨m, e, h1, h2, h3, h4⟩
      · refine .inl ⟨e, fun j _ hj => ?_⟩
        by_cases hk : j = k
        · subst hk; exact fun x => x h
        · exact ih j (Nat.zero_le _) (by omega)
      · refine .inr ⟨m, e, h1, by omega, h3, fun j _ hj hp => ?_⟩
        by_cases hk : j = k
        · subst hk; exact absurd h hp
        · exact h4 j (Nat.zero_le _) (by omega) hp
    · rw [if_neg h]
      rcases ih with ⟨e, ih⟩ | ⟨m, e, h1, h2, h3, h4⟩
      · rw [if_pos (.inl (by omega))]
        refine .inr ⟨k, rfl, Nat.zero_le _, by omega, h, fun j _ hj hp => ?_⟩
        by_cases hk : j = k
        · subst hk; exact ⟨Int.le_refl _, fun x => by omega⟩
        · exact absurd hp (ih j (Nat.zero_le _) (by omega))
      · rw [e, Int.toNat_natCast]
        by_cases hd : dur (l.getD m default) < dur (l.getD k default)
        · rw [if_pos (.inr hd)]
          refine .inr ⟨k, rfl, Nat.zero_le _, by omega, h, fun j _ hj hp => ?_⟩
          by_cases hk : j = k
          · subst hk; exact ⟨Int.le_refl _, fun x => by omega⟩
          · have := h4 j (Nat.zero_le _) (by omega) hp
            dsimp only at this ⊢
            exact ⟨by omega, fun _ => by omega⟩
        · rw [if_neg (by omega)]
          refine .inr ⟨m, rfl, h1, by omega, h3, fun j _ hj hp => ?_⟩
          by_cases hk : j = k
          · subst hk; dsimp only; exact ⟨by omega, fun x => by omega⟩
          · exact h4 j (Nat.zero_le _) (by omega) hp
theorem slowD_fm (l : List DSpan) (k : Nat) (hk : k ≤ l.length) : FM (fun j => (l.getD j default).fin ≠ 0) (fun j => dur (l.getD j default)) (slowD l k) (l.length - k) l.length := by
  induction k with
  | zero => exact .inl ⟨rfl, fun j _ h => by omega⟩
  | succ k ih =>
    have ih := ih (by omega)
    have e0 : l.length - (k + 1) = l.length - 1 - k := by omega
    rw [e0]
    unfold slowD
    generalize hi : l.length - 1 - k = i
    have e1 : l.length - k = i + 1 := by omega
    rw [e1] at ih
    by_cases h : (l.getD i default).fin = 0
    · rw [if_neg (fun x => x.1 h)]
      rcases ih with ⟨e, ih⟩ | ⟨m, e, h1, h2, h3, h4⟩
      · refine .inl ⟨e, fun j hj hl => ?_⟩
        by_cases hk : j = i
        · subst hk; exact fun x => x h
        · exact ih j (by omega) hl
      · refine .inr ⟨m, e, by omega, h2, h3, fun j hj hl hp => ?_⟩
        by_cases hk : j = i
        · subst hk; exact absurd h hp
        · exact h4 j (by omega) hl hp
    · rcases ih with ⟨e, ih⟩ | ⟨m, e, h1, h2, h3, h4⟩
      · rw [if_pos ⟨h, .inl (by omega)⟩]
        refine .inr ⟨i, rfl, Nat.le_refl _, by omega, h, fun j hj hl hp => ?_⟩
        by_cases hk : j = i
        · subst hk; exact ⟨Int.le_refl _, fun x => by omega⟩
        · exact absurd hp (ih j (by omega) hl)
      · rw [e, Int.toNat_natCast]
        by_cases hd : dur (l.getD m default) ≤ dur (l.getD i default)
        · rw [if_pos ⟨h, .inr hd⟩]
          refine .inr ⟨i, rfl, Nat.le_refl _, by omega, h, fun j hj hl hp => ?_⟩
          by_cases hk : j = i
          · subst hk; exact ⟨Int.le_refl _, fun x => by omega⟩
          · have := h4 j (by omega) hl hp
            dsimp only at this ⊢
            exact ⟨by omega, fun x => by omega⟩
        · rw [if_neg (fun x => by have := x.2; omega)]
          refine .inr ⟨m, rfl, by omega, h2, h3, fun j hj hl hp => ?_⟩
          by_cases hk : j = i
          · subst hk; dsimp only; exact ⟨by omega, fun x => by omega⟩
          · exact h4 j (by omega) hl hp
theorem slow_same (l : List DSpan) : slowD l l.length = slowK l l.length := by
  have a := slowD_fm l l.length (Nat.le_refl _)
  rw [Nat.sub_self] at a
  exact fm_unique a (slowK_fm l l.length)
end Go.Proofs.Ytkichjejadkdgaa
