/- How many nodes a pool has put away, behind a look by slots. -/
import Derived.Test.YtdneipibbdadcaaTMost
namespace Go.Proofs.Ytdneipibbdadcaa
set_option linter.unusedVariables false
set_option linter.unusedSimpArgs false
set_option linter.unnecessarySimpa false
theorem word_inj {i t j u : Int} (h1 : good i t = true) (h2 : good j u = true) (h : word i t = word j u) : i = j ∧ t = u := by
  rw [word_yes h1, word_yes h2] at h
  have a := good_iff.1 h1
  have b := good_iff.1 h2
  omega
theorem rdOk_word {i t : Int} (h : good i t = true) : rdOk (word i t) = true := by
  have a := good_iff.1 h
  rw [word_yes h]
  unfold rdOk
  first | (simp only [decide_eq_true_eq]; omega) | skip
theorem nodup_le {α : Type} [DecidableEq α] : ∀ {a b : List α}, a.Nodup → (∀ x ∈ a, x ∈ b) → a.length ≤ b.length
  | [], _, _, _ => Nat.zero_le _
  | x :: a, b, hn, hs => by
    have hx := hs x (List.mem_cons_self ..)
    have h := nodup_le (a := a) (b := b.erase x) (List.nodup_cons.1 hn).2 (fun y hy => by
      have hne : y ≠ x := fun e => (List.nodup_cons.1 hn).1 (e ▸ hy)
      exact (List.mem_erase_of_ne hne).2 (hs y (List.mem_cons_of_mem _ hy)))
    rw [List.length_erase_of_mem hx] at h
    have := List.length_pos_of_mem hx
    simp only [List.length_cons]; omega
def apartO (ol : List DOld) (i : Nat) : Prop := ∀ (q : Nat) (o : DOld), q < i → ol[q]? = some o → good o.ref.index o.ref.tag = true ∧ ∀ (r : Nat) (x : DOld), r < q → ol[r]? = some x → x.ref ≠ o.ref
theorem few {l : List Int} {ol : List DOld} (h : apartO ol ol.length) : (kept (prS l) ol).length ≤ (seen l).length := by
  have hg : ∀ o ∈ ol, good o.ref.index o.ref.tag = true := fun o ho => by
    obtain ⟨q, hq⟩ := List.getElem?_of_mem ho
    exact (h q o (get_lt hq) hq).1
  have hp : ol.Pairwise fun x o => x.ref ≠ o.ref := by
    rw [List.pairwise_iff_getElem]
    intro r q hr hq hrq
    exact (h q _ hq (List.getElem?_eq_getElem hq)).2 r _ hrq (List.getElem?_eq_getElem hr)
  have hk : (kept (prS l) ol).Pairwise fun x o => x.ref ≠ o.ref := hp.sublist List.filter_sublist
  have hn : ((kept (prS l) ol).map fun o => word o.ref.index o.ref.tag).Nodup := by
    rw [List.Nodup, List.pairwise_map]
    refine hk.imp_of_mem fun {a b} ha hb hne e => hne ?_
    have := word_inj (hg a (List.mem_filter.1 ha).1) (hg b (List.mem_filter.1 hb).1) e
    obtain ⟨⟨a1, a2⟩, a3⟩ := a; obtain ⟨⟨b1, b2⟩, b3⟩ := b
    simp only at this
    rw [this.1, this.2]
  have := nodup_le (b := seen l) hn fun w hw => by
    obtain ⟨o, ho, rfl⟩ := List.mem_map.1 hw
    have h1 := List.mem_filter.1 ho
    have h2 : word o.ref.index o.ref.tag ∈ l := by
      have := h1.2
      unfold prS at this
      simpa using this
    have h3 := seen_mem l l.length (Nat.le_refl _) _ (rdOk_word (hg o h1.1))
    rw [List.take_length] at h3
    exact h3.2 h2
  simpa using this
theorem freed_not {l : List Int} {fr : List DSlot} {ol : List DOld} {j : Nat} {s : DSlot} (h : (freed (prS l) fr ol)[fr.length + j]? = some s) : word s.index s.tag ∉ l := by
  unfold freed at h
  rw [List.getElem?_append_right (by omega), Nat.add_sub_cancel_left] at h
  obtain ⟨o, ho, rfl⟩ := List.mem_map.1 (List.mem_of_getElem? h)
  have := (List.mem_filter.1 ho).2
  unfold prS at this
  simpa [osl] using this
end Go.Proofs.Ytdneipibbdadcaa
