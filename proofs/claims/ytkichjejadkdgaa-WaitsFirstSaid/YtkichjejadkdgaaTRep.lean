/- How what a call knows stands to a world: HRep (its objects), Rep (its slots too), and how both go on when one object turns, when new ones come, when a row is frozen. No program in sight. -/
import Derived.Test.YtkichjejadkdgaaTree
namespace Go.Proofs.Ytkichjejadkdgaa
set_option linter.unusedVariables false
set_option linter.unusedSimpArgs false
set_option linter.unnecessarySimpa false
open Go.RowKit

def Kn (heap : List Ob) (i k : Nat) : Prop := ∃ o, heap[i]? = some o ∧ k < o.lim
def Ob.blk (ρ : Rho) (i : Nat) : Ob → Option Nat
  | .box _ _ => (ρ i 0).a.map (·.block)
  | .row k _ _ _ => if (ρ i k).c = 0 then none else (ρ i k).a.map (·.block)
  | .gone _ => none
  | .hole => none
def Ob.holds (R : AV → Value → Prop) (ρ : Rho) (w : World) (Z : Nat → Prop) (i : Nat) : Ob → Prop
  | .box T cs => ∃ b us, (ρ i 0).a = some ⟨b, 0, none⟩ ∧ w.heap[b]? = some (.cells us.toArray T (0, 0)) ∧ AVs R cs us ∧ ∀ u ∈ us, u.oneCell' = true
  | .row k E size els => (ρ i k).s = size ∧ ∃ xs, Elems (Frz w Z) size els xs ∧ (Res.row (ρ i k).a els.length (ρ i k).c E size xs).holds 0 w
  | .gone _ => True
  | .hole => True
theorem Ob.holds_mono {R R' : AV → Value → Prop} {ρ ρ' : Rho} {w w' : World} {Z Z' : Nat → Prop} {i j : Nat} {o : Ob} (hR : ∀ x v, R x v → R' x v) (hρ : ∀ k, k < o.lim → ρ' j k = ρ i k) (hz : ∀ b, Z b → Z' b ∧ w'.heap[b]? = w.heap[b]?)
    (hb : ∀ b, o.blk ρ i = some b → w'.heap[b]? = w.heap[b]?) (h : o.holds R ρ w Z i) : o.holds R' ρ' w' Z' j := by
  cases o with
  | box T cs =>
    obtain ⟨b, us, h1, h2, h3, h4⟩ := h
    refine ⟨b, us, by rw [hρ 0 (Nat.le_refl _)]; exact h1, ?_, ⟨h3.len, fun j x u a b => hR _ _ (h3.at_ j x u a b)⟩, h4⟩
    rw [hb b (by simp [Ob.blk, h1])]; exact h2
  | row k E size els =>
    obtain ⟨h1, xs, h2, h3⟩ := h
    have e := hρ k (Nat.le_refl _)
    refine ⟨by rw [e]; exact h1, xs, h2.mono fun _ _ h => h.mono hz, ?_⟩
    rw [e]
    exact holds_keep h3 fun b hb' => ⟨hb b (by simpa [Ob.blk, Res.blk] using hb'), Nat.zero_le _⟩
  | gone => trivial
  | hole => trivial
theorem Ob.blk_mono {ρ ρ' : Rho} {i j : Nat} {o : Ob} (hρ : ∀ k, k < o.lim → ρ' j k = ρ i k) : o.blk ρ' j = o.blk ρ i := by
  cases o with
  | box T cs => simp only [Ob.blk]; rw [hρ 0 (Nat.le_refl _)]
  | row k E size els => simp only [Ob.blk]; rw [hρ k (Nat.le_refl _)]
  | gone => rfl
  | hole => rfl

structure HRep (heap : List Ob) (w : World) (ρ : Rho) (Z Y : Nat → Prop) : Prop where
  obs : ∀ (i : Nat) (o : Ob), heap[i]? = some o → o.holds (Val (Kn heap) ρ w Z Y) ρ w Z i
  apart : ∀ (i j : Nat) (o o' : Ob) (b : Nat), heap[i]? = some o → heap[j]? = some o' → o.blk ρ i = some b → o'.blk ρ j = some b → i = j
  own : ∀ (i : Nat) (o : Ob) (b : Nat), heap[i]? = some o → o.blk ρ i = some b → b < w.heap.size ∧ ¬ Y b
  zy : ∀ b, Z b → Y b
  ylt : ∀ b, Y b → b < w.heap.size
section
variable {heap : List Ob} {w w' : World} {ρ ρ' : Rho} {Z Z' Y Y' : Nat → Prop}
theorem HRep.notin (h : HRep heap w ρ Z Y) {i : Nat} {o : Ob} (hi : heap[i]? = some o) {b : Nat} (hy : Y b) : o.blk ρ i ≠ some b := fun e => (h.own i o b hi e).2 hy
theorem Kn.set {o o' : Ob} {i j k : Nat} (hi : heap[i]? = some o) (hv : o.lim ≤ o'.lim) (h : Kn heap j k) : Kn (heap.set i o') j k := by
  obtain ⟨p, hp, hk⟩ := h
  by_cases e : i = j
  · subst e
    rw [hi] at hp; cases hp
    exact ⟨o', by rw [List.getElem?_set, if_pos rfl, if_pos (get_lt hi)], Nat.lt_of_lt_of_le hk hv⟩
  · exact ⟨p, by rw [List.getElem?_set, if_neg e]; exact hp, hk⟩
def setsAt (heap : List Ob) (N : Nat) (L : List Ob) : List Ob := heap.take N ++ L ++ heap.drop (N + L.length)
/-- Where new objects come to stand: behind all, or where a place was kept. -/
inductive AtL (heap : List Ob) (N : Nat) (L heap' : List Ob) : Prop
  | push (hN : heap.length = N) (hh : heap ++ L = heap')
  | fill (hl : ∀ q, q < L.length → heap[N + q]? = some .hole) (hh : setsAt heap N L = heap')
theorem setsAt_get {N : Nat} {L : List Ob} (hl : ∀ q, q < L.length → heap[N + q]? = some .hole) (j : Nat) : (setsAt heap N L)[j]? = if N ≤ j ∧ j < N + L.length then L[j - N]? else heap[j]? := by
  unfold setsAt
  by_cases h0 : L.length = 0
  · have : L = [] := List.eq_nil_of_length_eq_zero h0
    subst this
    rw [if_neg (by simp only [List.length_nil]; omega)]
    simp
  · have h1 := get_lt (hl 0 (by omega))
    have h2 := get_lt (hl (L.length - 1) (by omega))
    have e1 : (heap.take N).length = N := by rw [List.length_take]; omega
    by_cases c1 : j < N
    · rw [if_neg (by omega), List.append_assoc, List.getElem?_append_left (by omega), List.getElem?_take, if_pos c1]
    · by_cases c2 : j < N + L.length
      · rw [if_pos ⟨by omega, c2⟩, List.append_assoc, List.getElem?_append_right (by omega), e1, List.getElem?_append_left (by omega)]
      · rw [if_neg (by omega), List.getElem?_append_right (by simp only [List.length_append]; omega), List.length_append, e1, List.getElem?_drop]
        congr 1; omega
theorem AtL.new {N : Nat} {L heap' : List Ob} (h : AtL heap N L heap') {q : Nat} {o : Ob} (hq : L[q]? = some o) : heap'[N + q]? = some o := by
  have := get_lt hq
  cases h with
  | push hN hh => subst hN hh; rw [List.getElem?_append_right (by omega), Nat.add_sub_cancel_left]; exact hq
  | fill hl hh => subst hh; rw [setsAt_get hl, if_pos ⟨by omega, by omega⟩, Nat.add_sub_cancel_left]; exact hq
theorem AtL.old {N : Nat} {L heap' : List Ob} (h : AtL heap N L heap') {j : Nat} {o : Ob} (hj : heap[j]? = some o) (ho : 0 < o.lim) : heap'[j]? = some o ∧ ∀ q, q < L.length → j ≠ N + q := by
  cases h with
  | push hN hh => subst hN hh; have := get_lt hj; exact ⟨by rw [List.getElem?_append_left this]; exact hj, fun q _ => by omega⟩
  | fill hl hh =>
    subst hh
    have hne : ∀ q, q < L.length → j ≠ N + q := fun q hq e => by
      rw [e, hl q hq] at hj; cases hj; exact absurd ho (by simp [Ob.lim])
    refine ⟨?_, hne⟩
    rw [setsAt_get hl, if_neg (fun hc => hne (j - N) (by omega) (by omega))]
    exact hj
theorem AtL.part {N : Nat} {L heap' : List Ob} (h : AtL heap N L heap') {j : Nat} {o : Ob} (hj : heap'[j]? = some o) : (heap[j]? = some o ∧ ∀ q, q < L.length → j ≠ N + q) ∨ ∃ q, j = N + q ∧ L[q]? = some o := by
  cases h with
  | push hN hh =>
    subst hN hh
    by_cases e : j < heap.length
    · rw [List.getElem?_append_left e] at hj; exact .inl ⟨hj, fun q _ => by omega⟩
    · rw [List.getElem?_append_right (by omega)] at hj; exact .inr ⟨j - heap.length, by omega, hj⟩
  | fill hl hh =>
    subst hh
    rw [setsAt_get hl] at hj
    split at hj
    · rename_i hc; exact .inr ⟨j - N, by omega, hj⟩
    · rename_i hc; exact .inl ⟨hj, fun q hq e => hc (by omega)⟩
theorem AtL.kn {N : Nat} {L heap' : List Ob} (h : AtL heap N L heap') {j k : Nat} (hj : Kn heap j k) : Kn heap' j k ∧ ∀ q, q < L.length → j ≠ N + q := by
  obtain ⟨o, ho, hk⟩ := hj
  obtain ⟨h1, h2⟩ := h.old ho (by omega)
  exact ⟨⟨o, h1, hk⟩, h2⟩
theorem AtL.one {N : Nat} {o : Ob} {heap' : List Ob} (h : AtL heap N [o] heap') : heap'[N]? = some o := h.new (q := 0) rfl
/-- Values stay what they are. -/
theorem HRep.val (h : HRep heap w ρ Z Y) {heap' : List Ob} (hk : ∀ i k, Kn heap i k → Kn heap' i k ∧ ρ' i k = ρ i k) (hz : ∀ b, Z b → Z' b) (hy : ∀ b, Y b → Y' b ∧ w'.heap[b]? = w.heap[b]?) {x : AV} {v : Value}
    (hv : Val (Kn heap) ρ w Z Y x v) : Val (Kn heap') ρ' w' Z' Y' x v :=
  hv.mono hk (fun b hb => ⟨hz b hb, (hy b (h.zy b hb)).2⟩) hy
/-- One object turns. -/
theorem HRep.turn (h : HRep heap w ρ Z Y) {i : Nat} {o o' : Ob} (hi : heap[i]? = some o) (hv : o.lim ≤ o'.lim) (hρ : ∀ j k, Kn heap j k → ρ' j k = ρ j k) (hs : w.heap.size ≤ w'.heap.size)
    (hk : ∀ b, b < w.heap.size → o.blk ρ i ≠ some b → w'.heap[b]? = w.heap[b]?) (hh : o'.holds (Val (Kn (heap.set i o')) ρ' w' Z Y) ρ' w' Z i)
    (hb : ∀ b, o'.blk ρ' i = some b → o.blk ρ i = some b ∨ (w.heap.size ≤ b ∧ b < w'.heap.size)) : HRep (heap.set i o') w' ρ' Z Y := by
  have hy : ∀ b, Y b → Y b ∧ w'.heap[b]? = w.heap[b]? := fun b hb => ⟨hb, hk b (h.ylt b hb) (h.notin hi hb)⟩
  have hz : ∀ b, Z b → Z b ∧ w'.heap[b]? = w.heap[b]? := fun b hb => ⟨hb, (hy b (h.zy b hb)).2⟩
  have hkn : ∀ j k, Kn heap j k → Kn (heap.set i o') j k ∧ ρ' j k = ρ j k := fun j k hj => ⟨hj.set hi hv, hρ j k hj⟩
  have old : ∀ (j : Nat) (p : Ob), (heap.set i o')[j]? = some p → j ≠ i → heap[j]? = some p := fun j p hj hne => by rw [List.getElem?_set, if_neg (Ne.symm hne)] at hj; exact hj
  have new : ∀ (p : Ob), (heap.set i o')[i]? = some p → p = o' := fun p hp => by rw [List.getElem?_set, if_pos rfl, if_pos (get_lt hi)] at hp; cases hp; rfl
  have same : ∀ (j : Nat) (p : Ob), heap[j]? = some p → p.blk ρ' j = p.blk ρ j := fun j p hj => Ob.blk_mono fun k hk' => hρ j k ⟨p, hj, hk'⟩
  have newblk : ∀ (j : Nat) (p : Ob) (b : Nat), heap[j]? = some p → j ≠ i → p.blk ρ j = some b → o'.blk ρ' i ≠ some b := by
    intro j p b hj hne hpb ho
    rcases hb b ho with e | e
    · exact hne (h.apart j i p o b hj hi hpb e)
    · have := (h.own j p b hj hpb).1; omega
  refine ⟨fun j p hj => ?_, fun j k p q b hj hk' hp hq => ?_, fun j p b hj hp => ?_, h.zy, fun b hb => Nat.lt_of_lt_of_le (h.ylt b hb) hs⟩
  · by_cases e : j = i
    · subst e; rw [new p hj]; exact hh
    · have hj' := old j p hj e
      exact Ob.holds_mono (fun x v hx => hx.mono hkn hz hy) (fun k hk' => hρ j k ⟨p, hj', hk'⟩) hz (fun b hb' => hk b (h.own j p b hj' hb').1 fun e' => e (h.apart j i p o b hj' hi hb' e')) (h.obs j p hj')
  · by_cases e : j = i
    · by_cases e' : k = i
      · rw [e, e']
      · rw [e] at hj hp
        rw [new p hj] at hp
        have hk2 := old k q hk' e'
        rw [same k q hk2] at hq
        exact absurd hp (newblk k q b hk2 e' hq)
    · have hj2 := old j p hj e
      rw [same j p hj2] at hp
      by_cases e' : k = i
      · rw [e'] at hk' hq
        rw [new q hk'] at hq
        exact absurd hq (newblk j p b hj2 e hp)
      · have hk2 := old k q hk' e'
        rw [same k q hk2] at hq
        exact h.apart j k p q b hj2 hk2 hp hq
  · by_cases e : j = i
    · rw [e] at hj hp
      rw [new p hj] at hp
      rcases hb b hp with e' | e'
      · have := h.own i o b hi e'
        exact ⟨Nat.lt_of_lt_of_le this.1 hs, this.2⟩
      · exact ⟨e'.2, fun hy' => by have := h.ylt b hy'; omega⟩
    · have hj2 := old j p hj e
      rw [same j p hj2] at hp
      have := h.own j p b hj2 hp
      exact ⟨Nat.lt_of_lt_of_le this.1 hs, this.2⟩
/-- New objects come. -/
theorem HRep.push (h : HRep heap w ρ Z Y) {N : Nat} {L heap' : List Ob} (hat : AtL heap N L heap') (hρ : ∀ j k, Kn heap j k → ρ' j k = ρ j k) (hs : w.heap.size ≤ w'.heap.size) (hk : ∀ b, b < w.heap.size → w'.heap[b]? = w.heap[b]?)
    (hz : ∀ b, Z b → Z' b) (hy : ∀ b, Y b → Y' b) (hzy : ∀ b, Z' b → Y' b) (hyn : ∀ b, Y' b → Y b ∨ (w.heap.size ≤ b ∧ b < w'.heap.size))
    (hL : ∀ (q : Nat) (o : Ob), L[q]? = some o → o.holds (Val (Kn heap') ρ' w' Z' Y') ρ' w' Z' (N + q)) (ha : ∀ (q r : Nat) (o o' : Ob) (b : Nat), L[q]? = some o → L[r]? = some o' → o.blk ρ' (N + q) = some b → o'.blk ρ' (N + r) = some b → q = r)
    (ho : ∀ (q : Nat) (o : Ob) (b : Nat), L[q]? = some o → o.blk ρ' (N + q) = some b → w.heap.size ≤ b ∧ b < w'.heap.size ∧ ¬ Y' b) : HRep heap' w' ρ' Z' Y' := by
  have hy' : ∀ b, Y b → Y' b ∧ w'.heap[b]? = w.heap[b]? := fun b hb => ⟨hy b hb, hk b (h.ylt b hb)⟩
  have hz' : ∀ b, Z b → Z' b ∧ w'.heap[b]? = w.heap[b]? := fun b hb => ⟨hz b hb, (hy' b (h.zy b hb)).2⟩
  have hkn : ∀ j k, Kn heap j k → Kn heap' j k ∧ ρ' j k = ρ j k := fun j k hj => ⟨(hat.kn hj).1, hρ j k hj⟩
  have same : ∀ (j : Nat) (p : Ob), heap[j]? = some p → p.blk ρ' j = p.blk ρ j := fun j p hj => Ob.blk_mono fun k hk' => hρ j k ⟨p, hj, hk'⟩
  have part : ∀ (j : Nat) (p : Ob), heap'[j]? = some p → (heap[j]? = some p) ∨ (∃ q, j = N + q ∧ L[q]? = some p) := fun j p hj => (hat.part hj).elim (fun h => .inl h.1) .inr
  refine ⟨fun j p hj => ?_, fun j k p q b hj hk' hp hq => ?_, fun j p b hj hp => ?_, hzy, fun b hb => ?_⟩
  · rcases part j p hj with hj | ⟨q, rfl, hq⟩
    · exact Ob.holds_mono (fun x v hx => hx.mono hkn hz' hy') (fun k hk' => hρ j k ⟨p, hj, hk'⟩) hz' (fun b hb' => hk b (h.own j p b hj hb').1) (h.obs j p hj)
    · exact hL q p hq
  · rcases part j p hj with hj | ⟨m, rfl, hm⟩ <;> rcases part k q hk' with hk' | ⟨n, rfl, hn⟩
    · rw [same j p hj] at hp
      rw [same k q hk'] at hq
      exact h.apart j k p q b hj hk' hp hq
    · rw [same j p hj] at hp
      have := (h.own j p b hj hp).1
      have := (ho n q b hn hq).1
      omega
    · rw [same k q hk'] at hq
      have := (h.own k q b hk' hq).1
      have := (ho m p b hm hp).1
      omega
    · rw [ha m n p q b hm hn hp hq]
  · rcases part j p hj with hj | ⟨q, rfl, hq⟩
    · rw [same j p hj] at hp
      have h1 := h.own j p b hj hp
      refine ⟨Nat.lt_of_lt_of_le h1.1 hs, fun hb => ?_⟩
      rcases hyn b hb with e | e
      · exact h1.2 e
      · omega
    · exact (ho q p b hq hp).2
  · rcases hyn b hb with e | e
    · exact Nat.lt_of_lt_of_le (h.ylt b e) hs
    · exact e.2
/-- A row is frozen. -/
theorem HRep.freeze (h : HRep heap w ρ Z Y) {i k : Nat} {E : TypeId} {size : Nat} {els : List (List Tr)} (hi : heap[i]? = some (.row k E size els)) :
    HRep (heap.set i (.gone k)) w ρ (fun b => Z b ∨ (Ob.row k E size els).blk ρ i = some b) (fun b => Y b ∨ (Ob.row k E size els).blk ρ i = some b) := by
  have hkn : ∀ j k', Kn heap j k' → Kn (heap.set i (.gone k)) j k' ∧ ρ j k' = ρ j k' := fun j k' hj => ⟨hj.set hi (Nat.le_refl _), rfl⟩
  have old : ∀ (j : Nat) (p : Ob), (heap.set i (.gone k))[j]? = some p → (j ≠ i ∧ heap[j]? = some p) ∨ p = .gone k := fun j p hj => by
    rw [List.getElem?_set] at hj
    split at hj
    · split at hj <;> cases hj
      exact .inr rfl
    · rename_i e; exact .inl ⟨Ne.symm e, hj⟩
  refine ⟨fun j p hj => ?_, fun j m p q b hj hm hp hq => ?_, fun j p b hj hp => ?_, fun b hb => hb.elim (fun h1 => .inl (h.zy b h1)) .inr, fun b hb => hb.elim (h.ylt b) fun e => (h.own i _ b hi e).1⟩
  · rcases old j p hj with ⟨hne, hj⟩ | rfl
    · exact Ob.holds_mono (fun x v hx => hx.mono hkn (fun b hb => ⟨.inl hb, rfl⟩) (fun b hb => ⟨.inl hb, rfl⟩)) (fun _ _ => rfl) (fun b hb => ⟨.inl hb, rfl⟩) (fun _ _ => rfl) (h.obs j p hj)
    · trivial
  · rcases old j p hj with ⟨_, hj⟩ | rfl
    · rcases old m q hm with ⟨_, hm⟩ | rfl
      · exact h.apart j m p q b hj hm hp hq
      · cases hq
    · cases hp
  · rcases old j p hj with ⟨hne, hj⟩ | rfl
    · have h1 := h.own j p b hj hp
      refine ⟨h1.1, fun hb => ?_⟩
      rcases hb with hb | hb
      · exact h1.2 hb
      · exact hne (h.apart j i p _ b hj hi hp hb)
    · cases hp
end

/-! the whole of a call -/
structure Env where
  W : World
  D : Nat → Prop
  H : List Ob
  ρ : Rho
  Z : Nat → Prop
  Y : Nat → Prop
  big : ∀ b, W.heap.size ≤ b → D b
  yd : ∀ b, Y b → ¬ D b
structure Ok (e : Env) (heap : List Ob) (w : World) (ρ : Rho) (Z Y : Nat → Prop) : Prop where
  rep : HRep heap w ρ Z Y
  dom : ∀ (i : Nat) (o : Ob) (b : Nat), heap[i]? = some o → o.blk ρ i = some b → e.D b
  zone : ∀ b, Z b → e.Z b ∨ e.D b
  z0 : ∀ b, e.Z b → Z b
  y0 : ∀ b, e.Y b → Y b
  rho : ∀ i k, Kn e.H i k → Kn heap i k ∧ ρ i k = e.ρ i k
  os : w.os = e.W.os
  tape : w.tape = e.W.tape
  output : w.output = e.W.output
  size : e.W.heap.size ≤ w.heap.size
  keep : ∀ b, ¬ e.D b → w.heap[b]? = e.W.heap[b]?
/-- n: how many slots; h: how many objects were handed in, at most. -/
structure Fr where
  n : Nat
  h : Nat
structure St where
  n : Fr
  tmps : Nat → AV
  heap : List Ob
structure Rp (e : Env) (α : St) (a : Act) (w : World) (ρ : Rho) (Z Y : Nat → Prop) : Prop where
  ok : Ok e α.heap w ρ Z Y
  defers : a.defers = []
  n : a.tmps.size = α.n.n
  hl : e.H.length ≤ α.n.h
  at_ : ∀ (t : Nat) v, a.tmps[t]? = some v → Val (Kn α.heap) ρ w Z Y (α.tmps t) v
def Rep (e : Env) (α : St) (a : Act) (w : World) : Prop := ∃ ρ Z Y, Rp e α a w ρ Z Y
end Go.Proofs.Ytkichjejadkdgaa
