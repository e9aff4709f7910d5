/- Calls that wait: the plain law. -/
import Derived.Test.YtijaphlmomcbfaaTData
namespace Go.Proofs.Ytijaphlmomcbfaa
set_option linter.unusedVariables false
set_option linter.unusedSimpArgs false
set_option linter.unnecessarySimpa false
open Go.RowKit
/-- the first place at which p holds; -1: none -/
def ixF {α : Type} (p : α → Bool) : List α → Int
  | [] => -1
  | a :: l => if p a then 0 else if ixF p l < 0 then -1 else ixF p l + 1
theorem ixF_b {α : Type} (p : α → Bool) : ∀ l : List α, -1 ≤ ixF p l ∧ ixF p l < l.length
  | [] => by simp [ixF]
  | a :: l => by have := ixF_b p l; unfold ixF; simp only [List.length_cons]; repeat' split
                 all_goals omega
theorem ixF_at {α : Type} (p : α → Bool) : ∀ (l : List α) (j : Nat) (a : α), (∀ q, q < j → ∀ b, l[q]? = some b → p b = false) → l[j]? = some a → p a = true → ixF p l = j
  | [], j, a, _, h, _ => by simp at h
  | b :: l, 0, a, _, h, hp => by simp at h; subst h; simp [ixF, hp]
  | b :: l, j + 1, a, h0, h, hp => by
    have h1 := ixF_at p l j a (fun q hq c hc => h0 (q + 1) (by omega) c (by simpa using hc)) (by simpa using h) hp
    have h2 := h0 0 (by omega) b rfl
    unfold ixF
    rw [h2, h1]; simp; omega
theorem ixF_none {α : Type} (p : α → Bool) : ∀ l : List α, (∀ q : Nat, ∀ b, l[q]? = some b → p b = false) → ixF p l = -1
  | [], _ => rfl
  | b :: l, h0 => by
    have h1 := ixF_none p l (fun q c hc => h0 (q + 1) c (by simpa using hc))
    have h2 := h0 0 b rfl
    unfold ixF
    rw [h2, h1]; simp
theorem ixF_get {α : Type} (p : α → Bool) : ∀ l : List α, 0 ≤ ixF p l → ∃ a, l[(ixF p l).toNat]? = some a ∧ p a = true
  | [], h => by simp [ixF] at h
  | b :: l, h => by
    unfold ixF at h ⊢
    cases hp : p b
    · simp only [hp, Bool.false_eq_true, if_false] at h ⊢
      by_cases h2 : ixF p l < 0
      · rw [if_pos h2] at h; omega
      · rw [if_neg h2] at h ⊢
        obtain ⟨a, ha, hq⟩ := ixF_get p l (by omega)
        refine ⟨a, ?_, hq⟩
        rw [show (ixF p l + 1).toNat = (ixF p l).toNat + 1 by omega]; simpa using ha
    · exact ⟨b, by simp, hp⟩
theorem ixF_yes {α : Type} (p : α → Bool) {l : List α} {q : Nat} {a : α} (h : l[q]? = some a) (hp : p a = true) : 0 ≤ ixF p l := by
  by_cases h0 : 0 ≤ ixF p l
  · exact h0
  · exfalso
    have hb := (ixF_b p l).1
    suffices h : ∀ (l : List α) (q : Nat), l[q]? = some a → ixF p l ≠ -1 by exact h l q ‹_› (by omega)
    intro l
    induction l with
    | nil => intro q h; simp at h
    | cons b l ih =>
      intro q h
      unfold ixF
      cases q with
      | zero => simp at h; subst h; simp [hp]
      | succ q =>
        have h1 := ih q (by simpa using h)
        have h2 := (ixF_b p l).1
        repeat' split
        all_goals omega
def putOk (l : List DWait) (t : Int) : Bool := decide (0 ≤ t ∧ t < l.length ∧ (l.getD t.toNat default).on = false)
def putW (l : List DWait) (t : Int) (w : DWait) : List DWait := if putOk l t then l.set t.toNat ⟨true, w.ticket, w.seq, w.cases⟩ else l
def cutOk (l : List DWait) (t : Int) : Bool := decide (0 ≤ t ∧ t < l.length ∧ (l.getD t.toNat default).on = true)
def w0 : DWait := ⟨false, 0, 0, []⟩
def cutW (l : List DWait) (t : Int) : List DWait := if cutOk l t then l.set t.toNat w0 else l
theorem putW_len (l : List DWait) (t : Int) (w : DWait) : (putW l t w).length = l.length := by unfold putW; split <;> simp
theorem cutW_len (l : List DWait) (t : Int) : (cutW l t).length = l.length := by unfold cutW; split <;> simp
structure FS where
  th : Int
  wh : Int
  ok : Bool
def isC (d h : Int) (c : DCase) : Bool := decide (c.dir = d ∧ c.handle = h)
def firK (l : List DWait) (d h : Int) : Nat → FS
  | 0 => ⟨0, 0, false⟩
  | k + 1 => if (l.getD k default).on = true ∧ 0 ≤ ixF (isC d h) (l.getD k default).cases ∧ ((firK l d h k).ok = false ∨ (l.getD k default).ticket < (l.getD (firK l d h k).th.toNat default).ticket) then ⟨k, ixF (isC d h) (l.getD k default).cases, true⟩ else firK l d h k
theorem firK_ok (l : List DWait) (d h : Int) (k : Nat) : ((firK l d h k).ok = false ∧ (firK l d h k).th = 0 ∧ (firK l d h k).wh = 0) ∨ ((firK l d h k).ok = true ∧ ∃ t : Nat, (firK l d h k).th = t ∧ t < k ∧ (l.getD t default).on = true ∧ (firK l d h k).wh = ixF (isC d h) (l.getD t default).cases ∧ 0 ≤ (firK l d h k).wh) := by
  induction k with
  | zero => exact .inl ⟨rfl, rfl, rfl⟩
  | succ k ih =>
    unfold firK
    split
    · rename_i hc; exact .inr ⟨rfl, k, rfl, by omega, hc.1, rfl, hc.2.1⟩
    · rcases ih with ih | ⟨h0, t, h1, h2, h3, h4, h5⟩
      · exact .inl ih
      · exact .inr ⟨h0, t, h1, by omega, h3, h4, h5⟩
theorem firK_least (l : List DWait) (d h : Int) (k : Nat) : ∀ j, j < k → (l.getD j default).on = true → 0 ≤ ixF (isC d h) (l.getD j default).cases → (firK l d h k).ok = true ∧ (l.getD (firK l d h k).th.toNat default).ticket ≤ (l.getD j default).ticket := by
  induction k with
  | zero => intro j hj; omega
  | succ k ih =>
    intro j hj ho hi
    unfold firK
    by_cases hc : (l.getD k default).on = true ∧ 0 ≤ ixF (isC d h) (l.getD k default).cases ∧ ((firK l d h k).ok = false ∨ (l.getD k default).ticket < (l.getD (firK l d h k).th.toNat default).ticket)
    · rw [if_pos hc]
      refine ⟨rfl, ?_⟩
      rw [Int.toNat_natCast]
      by_cases e : j = k
      · subst e; exact Int.le_refl _
      · have := ih j (by omega) ho hi
        rcases hc.2.2 with h1 | h1
        · rw [this.1] at h1; cases h1
        · omega
    · rw [if_neg hc]
      by_cases e : j = k
      · subst e
        cases hk : (firK l d h j).ok
        · exact absurd ⟨ho, hi, .inl hk⟩ hc
        · refine ⟨rfl, ?_⟩
          by_cases h2 : (l.getD j default).ticket < (l.getD (firK l d h j).th.toNat default).ticket
          · exact absurd ⟨ho, hi, .inr h2⟩ hc
          · omega
      · exact ih j (by omega) ho hi
def cntW (l : List DWait) : Nat := (l.filter (·.on)).length
theorem cntW_next {l : List DWait} {q : Nat} {w : DWait} (h : l[q]? = some w) : cntW (l.take (q + 1)) = cntW (l.take q) + (if w.on then 1 else 0) := by
  unfold cntW
  rw [List.take_add_one, h, List.filter_append, List.length_append]
  cases hw : w.on <;> simp [hw]
theorem cntW_le (l : List DWait) : cntW l ≤ l.length := List.length_filter_le _ _
theorem cntW_set : ∀ (l : List DWait) (t : Nat) (w : DWait), t < l.length → (cntW (l.set t w) : Int) = cntW l - (if (l.getD t default).on then 1 else 0) + (if w.on then 1 else 0)
  | [], t, w, h => by simp at h
  | a :: l, 0, w, _ => by
    unfold cntW
    simp only [List.set_cons_zero, List.filter_cons, List.getD_cons_zero]
    cases a.on <;> cases w.on <;> simp only [List.length_cons, if_true, Bool.false_eq_true, if_false] <;> omega
  | a :: l, t + 1, w, h => by
    have := cntW_set l t w (by simpa using h)
    unfold cntW at this ⊢
    simp only [List.set_cons_succ, List.filter_cons, List.getD_cons_succ] at this ⊢
    cases a.on <;> simp only [List.length_cons, if_true, Bool.false_eq_true, if_false] <;> omega
end Go.Proofs.Ytijaphlmomcbfaa
