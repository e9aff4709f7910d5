/- Where a number is in a row. -/
import Derived.Test.YtdneipibbdadcaaTEnc
namespace Go.Proofs.Ytdneipibbdadcaa
set_option linter.unusedVariables false
set_option linter.unusedSimpArgs false
set_option linter.unnecessarySimpa false
open Go.RowKit
set_option maxRecDepth 100000
def ixI : List Int → Int → Int
  | [], _ => -1
  | a :: l, x => if a = x then 0 else if ixI l x < 0 then -1 else ixI l x + 1
theorem ixI_ge : ∀ (l : List Int) (x : Int), -1 ≤ ixI l x
  | [], _ => by simp [ixI]
  | a :: l, x => by have := ixI_ge l x; unfold ixI; repeat' split
                    all_goals omega
theorem ixI_at : ∀ (l : List Int) (x : Int) (j : Nat), (∀ q, q < j → l.getD q 0 ≠ x) → l[j]? = some x → ixI l x = j
  | [], _, _, _, h => by simp at h
  | a :: l, x, 0, _, h => by simp at h; simp [ixI, h]
  | a :: l, x, j + 1, h0, h => by
    have h1 := ixI_at l x j (fun q hq => by have := h0 (q + 1) (by omega); simpa using this) (by simpa using h)
    have h2 : a ≠ x := by have := h0 0 (by omega); simpa using this
    unfold ixI
    rw [if_neg h2, if_neg (by omega), h1]; rfl
theorem ixI_none : ∀ (l : List Int) (x : Int), (∀ q, q < l.length → l.getD q 0 ≠ x) → ixI l x = -1
  | [], _, _ => rfl
  | a :: l, x, h0 => by
    have h1 := ixI_none l x (fun q hq => by have := h0 (q + 1) (by simp; omega); simpa using this)
    have h2 : a ≠ x := by have := h0 0 (by simp); simpa using this
    unfold ixI
    rw [if_neg h2, if_pos (by omega)]
theorem ixI_mem : ∀ (l : List Int) (x : Int), 0 ≤ ixI l x ↔ x ∈ l
  | [], x => by simp [ixI]
  | a :: l, x => by
    have := ixI_mem l x
    unfold ixI
    by_cases h : a = x
    · simp [h]
    · rw [if_neg h]
      have h' : x ≠ a := fun e => h e.symm
      simp only [List.mem_cons, h', false_or]
      by_cases h2 : ixI l x < 0
      · rw [if_pos h2, ← this]; omega
      · rw [if_neg h2, ← this]; omega
theorem mem_getD {l : List Int} {x : Int} : x ∈ l ↔ ∃ q, q < l.length ∧ l.getD q 0 = x := by
  constructor
  · intro h
    obtain ⟨q, hq⟩ := List.getElem?_of_mem h
    have := get_lt hq
    exact ⟨q, this, by rw [List.getD_eq_getElem?_getD, hq]; rfl⟩
  · rintro ⟨q, hq, rfl⟩
    rw [List.getD_eq_getElem?_getD, List.getElem?_eq_getElem hq]
    exact List.getElem_mem hq
end Go.Proofs.Ytdneipibbdadcaa
