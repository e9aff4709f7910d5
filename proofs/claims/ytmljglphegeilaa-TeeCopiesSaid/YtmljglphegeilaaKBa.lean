/- Joined: XLA. -/
import Derived.Below
import Derived.OwnWalk
import Derived.ArgAppend
import Derived.Orders
import Derived.Laws.Slices
namespace Go.Proofs.Ytmljglphegeilaa
set_option linter.unusedVariables false
set_option linter.unusedSimpArgs false
set_option linter.unnecessarySimpa false
open Go.RowKit

def adr (a : Option Addr) : Addr := a.getD ⟨0, 0, none⟩
structure Rs (w : World) (size : Nat) (a : Option Addr) (n c : Nat) (xs : List Value) : Prop where
  cap : n ≤ c
  most : c ≤ maxLen
  none : a = .none → n = 0 ∧ c = 0
  len : xs.length = n * size
  cells : ∀ j u, xs[j]? = some u → w.cell? ((adr a).add j) = some u

theorem cell_lt {w : World} {a : Addr} {u : Value} (h : w.cell? a = some u) : a.block < w.heap.size := World.block_lt_of_cell? w a h
theorem add_block (a : Addr) (n : Nat) : (a.add n).block = a.block := by unfold Addr.add; split <;> rfl
theorem Rs.keep {w w' : World} {size : Nat} {a : Option Addr} {n c : Nat} {xs : List Value} (h : Rs w size a n c xs) (hk : xs ≠ [] → w'.heap[(adr a).block]? = w.heap[(adr a).block]?) : Rs w' size a n c xs := by
  refine ⟨h.cap, h.most, h.none, h.len, fun j u hj => ?_⟩
  have hne : xs ≠ [] := fun e => by rw [e] at hj; simp at hj
  rw [← h.cells j u hj]
  exact World.cell?_of_block (by rw [add_block]; exact hk hne)
theorem Rs.lt {w : World} {size : Nat} {a : Option Addr} {n c : Nat} {xs : List Value} (h : Rs w size a n c xs) (hne : xs ≠ []) : (adr a).block < w.heap.size := by
  match xs, hne with
  | u :: us, _ => have := cell_lt (h.cells 0 u rfl); rwa [add_block] at this
theorem Rs.below {B : Nat} {w w' : World} {size : Nat} {a : Option Addr} {n c : Nat} {xs : List Value} (h : Rs w size a n c xs) (hb : Below B w w') (hB : w.heap.size ≤ B) : Rs w' size a n c xs :=
  h.keep fun hne => hb.block _ (Nat.lt_of_lt_of_le (h.lt hne) hB)
theorem Rs.nil (w : World) (size : Nat) : Rs w size .none 0 0 [] := ⟨Nat.le_refl _, Nat.zero_le _, fun _ => ⟨rfl, rfl⟩, by simp, fun j u h => by simp at h⟩

inductive Res where
  | box (b : Nat) (T : TypeId) (cs : List Value)
  | row (a : Option Addr) (n c : Nat) (E : TypeId) (size : Nat) (xs : List Value)
def Res.blk : Res → Option Nat
  | .box b _ _ => some b
  | .row a _ c _ _ _ => if c = 0 then none else a.map (·.block)
def Res.holds (B : Nat) (w : World) : Res → Prop
  | .box b T cs => w.heap[b]? = some (.cells cs.toArray T (0, 0))
  | .row a n c E size xs => (c = 0 ∧ n = 0 ∧ xs = []) ∨ (0 < c ∧ w.ownsRow B E size (.slice a n c) n xs)
theorem holds_keep {B B' : Nat} {w w' : World} {r : Res} (h : r.holds B w) (hb : ∀ k, r.blk = some k → w'.heap[k]? = w.heap[k]? ∧ B' ≤ k) : r.holds B' w' := by
  cases r with
  | box b T cs =>
    have := (hb b rfl).1
    show w'.heap[b]? = _
    rw [this]; exact h
  | row a n c E size xs =>
    rcases h with h | ⟨hc, h1, h2⟩
    · exact .inl h
    refine .inr ⟨hc, h1, ?_⟩
    rcases h2 with h2 | ⟨g, cap, cur, hv, hg, hh, r⟩
    · exact .inl h2
    · simp only [Value.slice.injEq] at hv
      obtain ⟨rfl, _, rfl⟩ := hv
      have hk := hb g (by simp [Res.blk]; omega)
      exact .inr ⟨g, c, cur, rfl, hk.2, by rw [hk.1]; exact hh, r⟩

structure Hp (lo hi : Nat) (w : World) (own : List Res) (ro : List (World → Prop)) : Prop where
  ex : ∃ Z : Nat → Prop, (∀ k, Z k → lo ≤ k ∧ k < hi) ∧ (∀ r ∈ own, r.holds lo w ∧ ∀ k, r.blk = some k → lo ≤ k ∧ k < hi ∧ ¬ Z k) ∧
    own.Pairwise (fun r s => ∀ k, r.blk = some k → s.blk ≠ some k) ∧ ∀ p ∈ ro, p w ∧ ∀ w', (∀ k, Z k → w'.heap[k]? = w.heap[k]?) → p w'
  le : lo ≤ hi ∧ hi ≤ w.heap.size
abbrev Heap (B : Nat) (w : World) (own : List Res) (ro : List (World → Prop)) : Prop := Hp B w.heap.size w own ro

theorem Heap.start (w : World) : Heap w.heap.size w [] [] :=
  ⟨⟨fun _ => False, fun _ h => h.elim, fun _ h => by simp at h, List.Pairwise.nil, fun _ h => by simp at h⟩, Nat.le_refl _, Nat.le_refl _⟩
theorem Hp.keep {lo hi hi' : Nat} {w w' : World} {own : List Res} {ro : List (World → Prop)} (h : Hp lo hi w own ro) (hk : ∀ k, lo ≤ k → k < hi → w'.heap[k]? = w.heap[k]?) (hh : hi ≤ hi') (hs : hi' ≤ w'.heap.size) : Hp lo hi' w' own ro := by
  obtain ⟨⟨Z, hZ, ho, hp, hr⟩, hl⟩ := h
  refine ⟨⟨Z, fun k h => ⟨(hZ k h).1, Nat.lt_of_lt_of_le (hZ k h).2 hh⟩, fun r hr' => ?_, hp, fun p hp' => ?_⟩, Nat.le_trans hl.1 hh, hs⟩
  · obtain ⟨h1, h2⟩ := ho r hr'
    exact ⟨holds_keep h1 fun k hk' => ⟨hk k (h2 k hk').1 (h2 k hk').2.1, (h2 k hk').1⟩, fun k hk' => ⟨(h2 k hk').1, Nat.lt_of_lt_of_le (h2 k hk').2.1 hh, (h2 k hk').2.2⟩⟩
  · obtain ⟨_, h2⟩ := hr p hp'
    exact ⟨h2 w' fun k hk' => hk k (hZ k hk').1 (hZ k hk').2, fun w'' hw => h2 w'' fun k hk' => (hw k hk').trans (hk k (hZ k hk').1 (hZ k hk').2)⟩
theorem Hp.later {lo hi : Nat} {w w' : World} {own : List Res} {ro : List (World → Prop)} (h : Hp lo hi w own ro) (hb : Below w.heap.size w w') : Hp lo hi w' own ro :=
  h.keep (fun k _ h2 => hb.block k (Nat.lt_of_lt_of_le h2 h.le.2)) (Nat.le_refl _) (Nat.le_trans h.le.2 hb.size)
theorem Heap.below {B : Nat} {w w' : World} {own : List Res} {ro : List (World → Prop)} (h : Heap B w own ro) (hb : Below w.heap.size w w') : Heap B w' own ro :=
  Hp.keep h (fun k _ h2 => hb.block k h2) hb.size (Nat.le_refl _)
theorem Heap.drew {B : Nat} {w : World} {own : List Res} {ro : List (World → Prop)} (h : Heap B w own ro) : Heap B w.drew own ro := h.below (Below.refl _ _).drew
theorem Hp.join {lo hi lo' hi' B H : Nat} {w : World} {own own' : List Res} {ro ro' : List (World → Prop)} (h : Hp lo hi w own ro) (h' : Hp lo' hi' w own' ro') (hd : ∀ k, lo ≤ k → k < hi → lo' ≤ k → k < hi' → False)
    (hs : ∀ k, lo ≤ k → k < hi → B ≤ k ∧ k < H) (hs' : ∀ k, lo' ≤ k → k < hi' → B ≤ k ∧ k < H) (hH : B ≤ H ∧ H ≤ w.heap.size) : Hp B H w (own' ++ own) (ro' ++ ro) := by
  obtain ⟨⟨Z, hZ, ho, hp, hr⟩, hl⟩ := h
  obtain ⟨⟨Z', hZ', ho', hp', hr'⟩, hl'⟩ := h'
  refine ⟨⟨fun k => Z k ∨ Z' k, ?_, ?_, ?_, ?_⟩, hH⟩
  · rintro k (h | h)
    · exact hs k (hZ k h).1 (hZ k h).2
    · exact hs' k (hZ' k h).1 (hZ' k h).2
  · intro r hr1
    rcases List.mem_append.1 hr1 with h1 | h1
    · obtain ⟨a1, a2⟩ := ho' r h1
      refine ⟨holds_keep a1 fun k hk => ⟨rfl, (hs' k (a2 k hk).1 (a2 k hk).2.1).1⟩, fun k hk => ?_⟩
      have := a2 k hk
      refine ⟨(hs' k this.1 this.2.1).1, (hs' k this.1 this.2.1).2, ?_⟩
      rintro (hz | hz)
      · exact hd k (hZ k hz).1 (hZ k hz).2 this.1 this.2.1
      · exact this.2.2 hz
    · obtain ⟨a1, a2⟩ := ho r h1
      refine ⟨holds_keep a1 fun k hk => ⟨rfl, (hs k (a2 k hk).1 (a2 k hk).2.1).1⟩, fun k hk => ?_⟩
      have := a2 k hk
      refine ⟨(hs k this.1 this.2.1).1, (hs k this.1 this.2.1).2, ?_⟩
      rintro (hz | hz)
      · exact this.2.2 hz
      · exact hd k this.1 this.2.1 (hZ' k hz).1 (hZ' k hz).2
  · refine List.pairwise_append.2 ⟨hp', hp, fun r hr1 s hs1 k hk hk' => ?_⟩
    have h1 := (ho' r hr1).2 k hk
    have h2 := (ho s hs1).2 k hk'
    exact hd k h2.1 h2.2.1 h1.1 h1.2.1
  · intro p hp1
    rcases List.mem_append.1 hp1 with h1 | h1
    · exact ⟨(hr' p h1).1, fun w' hw => (hr' p h1).2 w' fun k hk => hw k (.inr hk)⟩
    · exact ⟨(hr p h1).1, fun w' hw => (hr p h1).2 w' fun k hk => hw k (.inl hk)⟩
theorem Heap.call {B : Nat} {w w' : World} {own own' : List Res} {ro ro' : List (World → Prop)} (h : Heap B w own ro) (hb : Below w.heap.size w w') (h' : Hp w.heap.size w'.heap.size w' own' ro') : Heap B w' (own' ++ own) (ro' ++ ro) := by
  have hk : Hp B w.heap.size w' own ro := Hp.keep h (fun k _ h2 => hb.block k h2) (Nat.le_refl _) hb.size
  have h1 := h.le.1
  have h2 := hb.size
  exact Hp.join hk h' (fun k _ a b _ => by omega) (fun k a b => ⟨a, by omega⟩) (fun k a b => ⟨by omega, b⟩) ⟨by omega, Nat.le_refl _⟩
theorem Heap.alloc {B : Nat} {w : World} {own : List Res} {ro : List (World → Prop)} (h : Heap B w own ro) (cs : List Value) (T : TypeId) : Heap B (w.alloc (.cells cs.toArray T)) (.box w.heap.size T cs :: own) ro := by
  have hb : Below w.heap.size w (w.alloc (.cells cs.toArray T)) := (Below.refl _ _).alloc (Nat.le_refl _) _
  have hn : Hp w.heap.size (w.alloc (.cells cs.toArray T)).heap.size (w.alloc (.cells cs.toArray T)) [.box w.heap.size T cs] [] := by
    refine ⟨⟨fun _ => False, fun _ h => h.elim, fun r hr => ?_, by simp, fun _ h => by simp at h⟩, by simp, Nat.le_refl _⟩
    simp at hr; subst hr
    refine ⟨heap_alloc_new w _, fun k hk => ?_⟩
    simp [Res.blk] at hk; subst hk
    simp
  exact h.call hb hn
theorem Hp.sub {lo hi : Nat} {w : World} {own own' : List Res} {ro ro' : List (World → Prop)} (h : Hp lo hi w own ro) (hp : own'.Sublist own) (hr' : ∀ p ∈ ro', p ∈ ro) : Hp lo hi w own' ro' := by
  obtain ⟨⟨Z, hZ, ho, hpw, hr⟩, hl⟩ := h
  exact ⟨⟨Z, hZ, fun r hr' => ho r (hp.subset hr'), hpw.sublist hp, fun p hp' => hr p (hr' p hp')⟩, hl⟩
theorem Heap.turn {B : Nat} {w w' : World} {own : List Res} {ro : List (World → Prop)} (h : Heap B w own ro) (i : Nat) (r r' : Res) (hi : own[i]? = some r) (hh : r'.holds B w') (hsz : w.heap.size ≤ w'.heap.size)
    (hk : ∀ k, k < w.heap.size → r.blk ≠ some k → w'.heap[k]? = w.heap[k]?) (hb : ∀ k, r'.blk = some k → r.blk = some k ∨ (w.heap.size ≤ k ∧ k < w'.heap.size)) : Heap B w' (own.set i r') ro := by
  obtain ⟨⟨Z, hZ, ho, hp, hr⟩, hl⟩ := h
  have hil : i < own.length := (List.getElem?_eq_some_iff.1 hi).1
  have hie : own[i] = r := (List.getElem?_eq_some_iff.1 hi).2
  have hri : r ∈ own := by rw [← hie]; exact List.getElem_mem _
  refine ⟨⟨Z, fun k hk' => by have := hZ k hk'; omega, fun s hs => ?_, ?_, fun p hp' => ?_⟩, by have := hl.1; omega, Nat.le_refl _⟩
  · obtain ⟨j, hj, rfl⟩ := List.mem_iff_getElem.1 hs
    have hj' : j < own.length := by simpa using hj
    rw [List.getElem_set]
    split
    · refine ⟨hh, fun k hk' => ?_⟩
      rcases hb k hk' with h1 | h1
      · have := (ho r hri).2 k h1
        exact ⟨this.1, by omega, this.2.2⟩
      · have := hl.1
        exact ⟨by omega, h1.2, fun hz => by have := hZ k hz; omega⟩
    · rename_i hne
      obtain ⟨h1, h2⟩ := ho own[j] (List.getElem_mem _)
      refine ⟨holds_keep h1 fun k hk' => ⟨hk k (h2 k hk').2.1 fun he => ?_, (h2 k hk').1⟩, fun k hk' => ⟨(h2 k hk').1, by have := (h2 k hk').2.1; omega, (h2 k hk').2.2⟩⟩
      have hpw := List.pairwise_iff_getElem.1 hp
      rcases Nat.lt_or_gt_of_ne hne with hlt | hlt
      · exact hpw i j hil hj' hlt k (by rw [hie]; exact he) hk'
      · exact hpw j i hj' hil hlt k hk' (by rw [hie]; exact he)
  · rw [List.pairwise_iff_getElem]
    intro a b ha hb' hab k hka hkb
    have ha' : a < own.length := by simpa using ha
    have hb'' : b < own.length := by simpa using hb'
    rw [List.getElem_set] at hka hkb
    have hpw := List.pairwise_iff_getElem.1 hp
    split at hka
    · rename_i e
      rw [if_neg (by omega)] at hkb
      rcases hb k hka with h1 | h1
      · exact hpw i b hil hb'' (by omega) k (by rw [hie]; exact h1) hkb
      · have := ((ho own[b] (List.getElem_mem _)).2 k hkb).2.1; omega
    · split at hkb
      · rcases hb k hkb with h1 | h1
        · exact hpw a i ha' hil (by omega) k hka (by rw [hie]; exact h1)
        · have := ((ho own[a] (List.getElem_mem _)).2 k hka).2.1; omega
      · exact hpw a b ha' hb'' hab k hka hkb
  · obtain ⟨_, h2⟩ := hr p hp'
    have hz : ∀ k, Z k → w'.heap[k]? = w.heap[k]? := fun k hk' => hk k (hZ k hk').2 fun he => ((ho r hri).2 k he).2.2 hk'
    exact ⟨h2 w' hz, fun w'' hw => h2 w'' fun k hk' => (hw k hk').trans (hz k hk')⟩

theorem Hp.holds {lo hi : Nat} {w : World} {own : List Res} {ro : List (World → Prop)} (h : Hp lo hi w own ro) {r : Res} (i : Nat) (hi' : own[i]? = some r) : r.holds lo w ∧ ∀ k, r.blk = some k → lo ≤ k ∧ k < hi := by
  obtain ⟨⟨Z, hZ, ho, hp, hr⟩, hl⟩ := h
  have := ho r (List.mem_of_getElem? hi')
  exact ⟨this.1, fun k hk => ⟨(this.2 k hk).1, (this.2 k hk).2.1⟩⟩
theorem Hp.cell {lo hi : Nat} {w : World} {own : List Res} {ro : List (World → Prop)} (h : Hp lo hi w own ro) (i : Nat) {b : Nat} {T : TypeId} {cs : List Value} (hi' : own[i]? = some (.box b T cs)) (j : Nat) {v : Value} (hj : cs[j]? = some v) :
    w.cell? ⟨b, j, none⟩ = some v := by
  have := (h.holds i hi').1
  unfold Res.holds at this
  rw [cell_of_row w b j _ _ _ this]; simpa using hj
theorem Hp.free {lo hi : Nat} {w : World} {own : List Res} {ro : List (World → Prop)} (h : Hp lo hi w own ro) (i : Nat) {b : Nat} {T : TypeId} {cs : List Value} (hi' : own[i]? = some (.box b T cs)) (j : Nat) :
    w.frozen? ⟨b, j, none⟩ = false := by
  have := (h.holds i hi').1
  unfold Res.holds at this
  simp [World.frozen?, this]
theorem Hp.box_lt {lo hi : Nat} {w : World} {own : List Res} {ro : List (World → Prop)} (h : Hp lo hi w own ro) (i : Nat) {b : Nat} {T : TypeId} {cs : List Value} (hi' : own[i]? = some (.box b T cs)) : lo ≤ b ∧ b < hi :=
  (h.holds i hi').2 b rfl
theorem rs_of_owns {B : Nat} {w : World} {a : Option Addr} {n c : Nat} {E : TypeId} {size : Nat} {xs : List Value} (h : w.ownsRow B E size (.slice a n c) n xs) : Rs w size a n c xs := by
  obtain ⟨h1, h2⟩ := h
  rcases h2 with ⟨h2, h3⟩ | ⟨g, cap, cur, hv, hg, hh, hnc, hcm, hcs, ht⟩
  · simp only [Value.slice.injEq] at h2
    obtain ⟨rfl, rfl, rfl⟩ := h2
    have : xs = [] := List.eq_nil_of_length_eq_zero (by simpa using h1)
    subst this
    exact Rs.nil w size
  · simp only [Value.slice.injEq] at hv
    obtain ⟨rfl, _, rfl⟩ := hv
    refine ⟨hnc, hcm, (fun e => by cases e), h1, fun j u hj => ?_⟩
    have hjl : j < xs.length := (List.getElem?_eq_some_iff.1 hj).1
    have e : (adr (some ⟨g, 0, none⟩)).add j = ⟨g, j, none⟩ := by
      unfold adr Addr.add; split <;> simp_all
    rw [e, cell_of_row w g j cur E (0, 0) hh, ← hj, ← ht, List.getElem?_take, if_pos (by omega)]
    simp
theorem rs_of_holds {B : Nat} {w : World} {a : Option Addr} {n c : Nat} {E : TypeId} {size : Nat} {xs : List Value} (h : (Res.row a n c E size xs).holds B w) : Rs w size a n c xs := by
  rcases h with ⟨rfl, rfl, rfl⟩ | ⟨_, h⟩
  · exact ⟨Nat.le_refl _, Nat.zero_le _, fun _ => ⟨rfl, rfl⟩, by simp, fun j u h => by simp at h⟩
  · exact rs_of_owns h
theorem Hp.row {lo hi : Nat} {w : World} {own : List Res} {ro : List (World → Prop)} (h : Hp lo hi w own ro) (i : Nat) {a : Option Addr} {n c : Nat} {E : TypeId} {size : Nat} {xs : List Value} (hi' : own[i]? = some (.row a n c E size xs)) : Rs w size a n c xs :=
  rs_of_holds (h.holds i hi').1
theorem Hp.freeze {lo hi : Nat} {w : World} {own : List Res} {ro : List (World → Prop)} (h : Hp lo hi w own ro) (i : Nat) {a : Option Addr} {n c : Nat} {E : TypeId} {size : Nat} {xs : List Value} (hi' : own[i]? = some (.row a n c E size xs)) :
    Hp lo hi w (own.eraseIdx i) ((fun w => Rs w size a n c xs) :: ro) := by
  have hrow := h.row i hi'
  obtain ⟨⟨Z, hZ, ho, hp, hr⟩, hl⟩ := h
  have hil : i < own.length := (List.getElem?_eq_some_iff.1 hi').1
  have hie : own[i] = .row a n c E size xs := (List.getElem?_eq_some_iff.1 hi').2
  have hri := ho _ (List.mem_of_getElem? hi')
  refine ⟨⟨fun k => Z k ∨ (Res.row a n c E size xs).blk = some k, ?_, fun r hr' => ?_, hp.sublist (List.eraseIdx_sublist ..), fun p hp' => ?_⟩, hl⟩
  · rintro k (h | h)
    · exact hZ k h
    · exact ⟨(hri.2 k h).1, (hri.2 k h).2.1⟩
  · obtain ⟨j, hj, e⟩ := List.mem_eraseIdx_iff_getElem.1 hr'
    obtain ⟨hne, rfl⟩ := e
    obtain ⟨h1, h2⟩ := ho own[j] (List.getElem_mem _)
    refine ⟨h1, fun k hk => ⟨(h2 k hk).1, (h2 k hk).2.1, ?_⟩⟩
    rintro (hz | hz)
    · exact (h2 k hk).2.2 hz
    · have hpw := List.pairwise_iff_getElem.1 hp
      rcases Nat.lt_or_gt_of_ne hne with hlt | hlt
      · exact hpw j i (by assumption) hil hlt k hk (by rw [hie]; exact hz)
      · exact hpw i j hil (by assumption) hlt k (by rw [hie]; exact hz) hk
  · rcases List.mem_cons.1 hp' with rfl | hp'
    · refine ⟨hrow, fun w' hw => hrow.keep fun hne => hw _ (.inr ?_)⟩
      have hcn := hrow.cap
      have hc0 : c ≠ 0 := fun e => hne (List.eq_nil_of_length_eq_zero (by rw [hrow.len, show n = 0 by omega]; simp))
      cases a with
      | none => exact absurd (List.eq_nil_of_length_eq_zero (by rw [hrow.len, (hrow.none rfl).1]; simp)) hne
      | some b => simp [Res.blk, hc0, adr]
    · exact ⟨(hr p hp').1, fun w' hw => (hr p hp').2 w' fun k hk => hw k (.inl hk)⟩
theorem Heap.store {B : Nat} {w : World} {own : List Res} {ro : List (World → Prop)} (h : Heap B w own ro) (i : Nat) {b : Nat} {T : TypeId} {cs : List Value} (hi' : own[i]? = some (.box b T cs)) (j : Nat) (v : Value) :
    Heap B (w.setCell ⟨b, j, none⟩ v) (own.set i (.box b T (cs.set j v))) ro := by
  have hh := (h.holds i hi').1
  unfold Res.holds at hh
  have hlt := (h.box_lt i hi').2
  refine h.turn i _ _ hi' ?_ (by simp [World.setCell]) (fun k hk hne => Below.heap_setCell _ _ _ _ fun e => hne (by simp [Res.blk, e])) (fun k hk => .inl (by simpa [Res.blk] using hk))
  unfold Res.holds
  simp [World.setCell, Array.getElem?_modify, hh]
def Hs (D : Nat → Prop) (w : World) (own : List Res) (ro : List (World → Prop)) : Prop :=
  ∃ Z : Nat → Prop, (∀ k, Z k → D k) ∧ (∀ r ∈ own, r.holds 0 w ∧ ∀ k, r.blk = some k → D k ∧ ¬ Z k) ∧
    own.Pairwise (fun r s => ∀ k, r.blk = some k → s.blk ≠ some k) ∧ ∀ p ∈ ro, p w ∧ ∀ w', (∀ k, Z k → w'.heap[k]? = w.heap[k]?) → p w'
theorem Hp.hs {lo hi : Nat} {w : World} {own : List Res} {ro : List (World → Prop)} (h : Hp lo hi w own ro) : Hs (fun k => lo ≤ k ∧ k < hi) w own ro := by
  obtain ⟨⟨Z, hZ, ho, hp, hr⟩, _⟩ := h
  exact ⟨Z, hZ, fun r hr' => ⟨holds_keep (ho r hr').1 fun k hk => ⟨rfl, Nat.zero_le _⟩, fun k hk => ⟨⟨((ho r hr').2 k hk).1, ((ho r hr').2 k hk).2.1⟩, ((ho r hr').2 k hk).2.2⟩⟩, hp, hr⟩
theorem Hs.hp {D : Nat → Prop} {B H : Nat} {w : World} {own : List Res} {ro : List (World → Prop)} (h : Hs D w own ro) (hs : ∀ k, D k → B ≤ k ∧ k < H) (hH : B ≤ H ∧ H ≤ w.heap.size) : Hp B H w own ro := by
  obtain ⟨Z, hZ, ho, hp, hr⟩ := h
  exact ⟨⟨Z, fun k hk => hs k (hZ k hk), fun r hr' => ⟨holds_keep (ho r hr').1 fun k hk => ⟨rfl, (hs k ((ho r hr').2 k hk).1).1⟩, fun k hk => ⟨(hs k ((ho r hr').2 k hk).1).1, (hs k ((ho r hr').2 k hk).1).2, ((ho r hr').2 k hk).2⟩⟩, hp, hr⟩, hH⟩
theorem Hs.join {D D' : Nat → Prop} {w : World} {own own' : List Res} {ro ro' : List (World → Prop)} (h : Hs D w own ro) (h' : Hs D' w own' ro') (hd : ∀ k, D k → D' k → False) : Hs (fun k => D k ∨ D' k) w (own' ++ own) (ro' ++ ro) := by
  obtain ⟨Z, hZ, ho, hp, hr⟩ := h
  obtain ⟨Z', hZ', ho', hp', hr'⟩ := h'
  refine ⟨fun k => Z k ∨ Z' k, ?_, ?_, ?_, ?_⟩
  · rintro k (h | h)
    · exact .inl (hZ k h)
    · exact .inr (hZ' k h)
  · intro r hr1
    rcases List.mem_append.1 hr1 with h1 | h1
    · obtain ⟨a1, a2⟩ := ho' r h1
      refine ⟨a1, fun k hk => ⟨.inr (a2 k hk).1, ?_⟩⟩
      rintro (hz | hz)
      · exact hd k (hZ k hz) (a2 k hk).1
      · exact (a2 k hk).2 hz
    · obtain ⟨a1, a2⟩ := ho r h1
      refine ⟨a1, fun k hk => ⟨.inl (a2 k hk).1, ?_⟩⟩
      rintro (hz | hz)
      · exact (a2 k hk).2 hz
      · exact hd k (a2 k hk).1 (hZ' k hz)
  · exact List.pairwise_append.2 ⟨hp', hp, fun r hr1 s hs1 k hk hk' => hd k ((ho s hs1).2 k hk').1 ((ho' r hr1).2 k hk).1⟩
  · intro p hp1
    rcases List.mem_append.1 hp1 with h1 | h1
    · exact ⟨(hr' p h1).1, fun w' hw => (hr' p h1).2 w' fun k hk => hw k (.inr hk)⟩
    · exact ⟨(hr p h1).1, fun w' hw => (hr p h1).2 w' fun k hk => hw k (.inl hk)⟩
end Go.Proofs.Ytmljglphegeilaa

namespace Go.Proofs.Ytmljglphegeilaa
set_option linter.unusedVariables false
set_option linter.unusedSimpArgs false
set_option linter.unnecessarySimpa false
open Go.RowKit

inductive Tr where
  | v (x : Value)
  | lst (els : List (List Tr))
instance : Inhabited Tr := ⟨.lst []⟩
inductive AV where
  | any
  | t (x : Tr)
  | nl
  | ln (els : List (List Tr))
  | lp (cs : List AV)
  | sl (i k n : Nat)
  | sub (i k off n : Nat)
  | ptr (i off : Nat)
  | mv (i : Nat)
  | cl (els : List (List Tr))
  | rp (i k idx off : Nat)
  | fn (f : Fn) (first cap : List AV)
  | agg (l : List AV)
  | tup (l : List AV)
instance : Inhabited AV := ⟨.any⟩
inductive Ob where
  | box (T : TypeId) (cs : List AV)
  | row (k : Nat) (E : TypeId) (size : Nat) (els : List (List Tr))
  | gone (k : Nat)
  | hole
  | mp (es : List (Int × Int))
  | ra (k : Nat) (E : TypeId) (cs : List AV)
instance : Inhabited Ob := ⟨.gone 0⟩
def Ob.lim : Ob → Nat
  | .box _ _ => 1
  | .row k _ _ _ => k + 1
  | .gone k => k + 1
  | .hole => 0
  | .mp _ => 1
  | .ra k _ _ => k + 1

inductive Frz (w : World) (Z : Nat → Prop) : Tr → Value → Prop
  | v {x : Value} (h : x.oneCell' = true) : Frz w Z (.v x) x
  | lst {els : List (List Tr)} {a : Option Addr} {n c size : Nat} {xs : List Value} (hr : Rs w size a n c xs) (hz : xs ≠ [] → Z (adr a).block) (hn : els.length = n)
      (hs : ∀ cs ∈ els, cs.length = size) (hf : ∀ (i : Nat) cs (j : Nat) x u, els[i]? = some cs → cs[j]? = some x → xs[i * size + j]? = some u → Frz w Z x u) : Frz w Z (.lst els) (.slice a n c)
structure Elems (R : Tr → Value → Prop) (size : Nat) (els : List (List Tr)) (xs : List Value) : Prop where
  len : xs.length = els.length * size
  each : ∀ cs ∈ els, cs.length = size
  at_ : ∀ (i : Nat) cs (j : Nat) x u, els[i]? = some cs → cs[j]? = some x → xs[i * size + j]? = some u → R x u
theorem Frz.open {w : World} {Z : Nat → Prop} {els : List (List Tr)} {v : Value} (h : Frz w Z (.lst els) v) :
    ∃ a c size xs, v = .slice a els.length c ∧ Rs w size a els.length c xs ∧ (xs ≠ [] → Z (adr a).block) ∧ Elems (Frz w Z) size els xs := by
  cases h with
  | lst hr hz hn hs hf => subst hn; exact ⟨_, _, _, _, rfl, hr, hz, hr.len, hs, hf⟩
theorem Frz.shut {w : World} {Z : Nat → Prop} {els : List (List Tr)} {a : Option Addr} {n c size : Nat} {xs : List Value} (hn : els.length = n) (hr : Rs w size a n c xs) (hz : xs ≠ [] → Z (adr a).block) (he : Elems (Frz w Z) size els xs) : Frz w Z (.lst els) (.slice a n c) :=
  .lst hr hz hn he.each he.at_
theorem Frz.mono {w w' : World} {Z Z' : Nat → Prop} (hz : ∀ b, Z b → Z' b ∧ w'.heap[b]? = w.heap[b]?) {x : Tr} {u : Value} (h : Frz w Z x u) : Frz w' Z' x u := by
  induction h with
  | v h => exact .v h
  | lst hr hz' hn hs _ ih => exact .lst (hr.keep fun hne => (hz _ (hz' hne)).2) (fun hne => (hz _ (hz' hne)).1) hn hs ih
theorem Frz.one {w : World} {Z : Nat → Prop} {x : Tr} {u : Value} (h : Frz w Z x u) : u.oneCell' = true := by
  cases h with
  | v h => exact h
  | lst => rfl

theorem idx_lt {i j n size : Nat} (hi : i < n) (hj : j < size) : i * size + j < n * size := by
  have : (i + 1) * size ≤ n * size := Nat.mul_le_mul_right _ hi
  rw [Nat.succ_mul] at this; omega
theorem get_lt {α : Type} {l : List α} {i : Nat} {x : α} (h : l[i]? = some x) : i < l.length := (List.getElem?_eq_some_iff.1 h).1
section
variable {R R' : Tr → Value → Prop} {size : Nat} {els els' : List (List Tr)} {xs xs' : List Value}
theorem Elems.mono (h : Elems R size els xs) (hr : ∀ x u, R x u → R' x u) : Elems R' size els xs := ⟨h.len, h.each, fun i cs j x u a b c => hr _ _ (h.at_ i cs j x u a b c)⟩
theorem Elems.nil : Elems R size [] [] := ⟨by simp, fun _ h => by simp at h, fun i cs j x u h => by simp at h⟩
theorem Elems.cell (h : Elems R size els xs) {i : Nat} {cs : List Tr} (hi : els[i]? = some cs) {j : Nat} {x : Tr} (hj : cs[j]? = some x) : ∃ u, xs[i * size + j]? = some u ∧ R x u := by
  have h1 := get_lt hi
  have h2 := get_lt hj
  rw [h.each cs (List.mem_of_getElem? hi)] at h2
  have h3 := idx_lt h1 h2
  rw [← h.len] at h3
  exact ⟨_, List.getElem?_eq_getElem h3, h.at_ i cs j x _ hi hj (List.getElem?_eq_getElem h3)⟩
theorem Elems.all (h : Elems R size els xs) {q : Nat} {u : Value} (hq : xs[q]? = some u) : ∃ i cs j x, els[i]? = some cs ∧ cs[j]? = some x ∧ q = i * size + j ∧ R x u := by
  have h1 := get_lt hq
  rw [h.len] at h1
  have hs : 0 < size := by
    rcases Nat.eq_zero_or_pos size with e | e
    · rw [e] at h1; omega
    · exact e
  have hi : q / size < els.length := (Nat.div_lt_iff_lt_mul hs).2 h1
  have hj : q % size < size := Nat.mod_lt _ hs
  have he : q / size * size + q % size = q := by rw [Nat.mul_comm]; exact Nat.div_add_mod q size
  have hc := h.each _ (List.getElem_mem hi)
  refine ⟨q / size, els[q / size], q % size, els[q / size][q % size]'(by rw [hc]; exact hj), List.getElem?_eq_getElem hi, List.getElem?_eq_getElem _, he.symm, ?_⟩
  exact h.at_ _ _ _ _ _ (List.getElem?_eq_getElem hi) (List.getElem?_eq_getElem (by rw [hc]; exact hj)) (by rw [he]; exact hq)
theorem Elems.append (h : Elems R size els xs) (h' : Elems R size els' xs') : Elems R size (els ++ els') (xs ++ xs') := by
  refine ⟨by rw [List.length_append, List.length_append, h.len, h'.len, Nat.add_mul], fun cs hc => (List.mem_append.1 hc).elim (h.each cs) (h'.each cs), fun i cs j x u hi hj hu => ?_⟩
  by_cases hlt : i < els.length
  · rw [List.getElem?_append_left hlt] at hi
    have hjl := get_lt hj
    rw [h.each cs (List.mem_of_getElem? hi)] at hjl
    rw [List.getElem?_append_left (by rw [h.len]; exact idx_lt hlt hjl)] at hu
    exact h.at_ i cs j x u hi hj hu
  · rw [List.getElem?_append_right (by omega)] at hi
    have hge : els.length * size ≤ i * size := Nat.mul_le_mul_right _ (by omega)
    rw [List.getElem?_append_right (by rw [h.len]; omega), h.len] at hu
    refine h'.at_ (i - els.length) cs j x u hi hj ?_
    rw [← hu, Nat.sub_mul]
    congr 1
    omega
theorem Elems.take (h : Elems R size els xs) (n : Nat) : Elems R size (els.take n) (xs.take (n * size)) := by
  refine ⟨?_, fun cs hc => h.each cs (List.mem_of_mem_take hc), fun i cs j x u hi hj hu => ?_⟩
  · rw [List.length_take, List.length_take, h.len]
    rcases Nat.le_total n els.length with hn | hn
    · rw [Nat.min_eq_left hn, Nat.min_eq_left (Nat.mul_le_mul_right _ hn)]
    · rw [Nat.min_eq_right hn, Nat.min_eq_right (Nat.mul_le_mul_right _ hn)]
  · rw [List.getElem?_take] at hi hu
    split at hi
    · split at hu
      · exact h.at_ i cs j x u hi hj hu
      · cases hu
    · cases hi
theorem Elems.drop (h : Elems R size els xs) (n : Nat) : Elems R size (els.drop n) (xs.drop (n * size)) := by
  refine ⟨by rw [List.length_drop, List.length_drop, h.len, Nat.sub_mul], fun cs hc => h.each cs (List.mem_of_mem_drop hc), fun i cs j x u hi hj hu => ?_⟩
  rw [List.getElem?_drop] at hi hu
  exact h.at_ (n + i) cs j x u hi hj (by rw [← hu, Nat.add_mul, Nat.add_assoc])
theorem Elems.replicate {zs : List Tr} {us : List Value} (hz : zs.length = size) (hu : us.length = size) (hr : ∀ (j : Nat) x u, zs[j]? = some x → us[j]? = some u → R x u) : ∀ n, Elems R size (List.replicate n zs) ((List.replicate n us).flatten)
  | 0 => Elems.nil
  | n + 1 => by
    rw [List.replicate_succ, List.replicate_succ, List.flatten_cons]
    have h1 : Elems R size [zs] us := ⟨by simp [hu], fun cs hc => by simp at hc; rw [hc]; exact hz, fun i cs j x u hi hj hu => by
      cases i with
      | zero => simp at hi; subst hi; exact hr j x u hj (by simpa using hu)
      | succ i => simp at hi⟩
    exact h1.append (Elems.replicate hz hu hr n)
theorem Elems.set (h : Elems R size els xs) {i f : Nat} {cs ts : List Tr} {vs : List Value} (hi : els[i]? = some cs) (hl : ts.length = vs.length) (hf : f + ts.length ≤ size) (hr : ∀ (j : Nat) x u, ts[j]? = some x → vs[j]? = some u → R x u) :
    Elems R size (els.set i (cs.take f ++ ts ++ cs.drop (f + ts.length))) (xs.take (i * size + f) ++ vs ++ xs.drop (i * size + f + vs.length)) := by
  have hil := get_lt hi
  have hcs := h.each cs (List.mem_of_getElem? hi)
  have hm : i * size + size ≤ els.length * size := by rw [← Nat.succ_mul]; exact Nat.mul_le_mul_right _ hil
  have hxl := h.len
  have hcl : (cs.take f ++ ts ++ cs.drop (f + ts.length)).length = size := by
    simp only [List.length_append, List.length_take, List.length_drop]; omega
  refine ⟨?_, ?_, ?_⟩
  · simp only [List.length_append, List.length_take, List.length_drop, List.length_set]; omega
  · intro c hc
    rcases List.mem_or_eq_of_mem_set hc with hc | hc
    · exact h.each c hc
    · rw [hc]; exact hcl
  · intro i' c j x u hi' hj hu
    rw [List.getElem?_set] at hi'
    have hxt : (xs.take (i * size + f)).length = i * size + f := by rw [List.length_take]; omega
    by_cases e : i = i'
    · subst e
      rw [if_pos rfl, if_pos hil] at hi'
      cases hi'
      have hjl := get_lt hj
      rw [hcl] at hjl
      have hct : (cs.take f).length = f := by rw [List.length_take]; omega
      by_cases hj1 : j < f
      · rw [List.append_assoc, List.getElem?_append_left (by rw [hct]; exact hj1), List.getElem?_take, if_pos hj1] at hj
        rw [List.append_assoc, List.getElem?_append_left (by rw [hxt]; omega), List.getElem?_take, if_pos (by omega)] at hu
        exact h.at_ i cs j x u hi hj hu
      · by_cases hj2 : j < f + ts.length
        · rw [List.append_assoc, List.getElem?_append_right (by rw [hct]; omega), hct, List.getElem?_append_left (by omega)] at hj
          rw [List.append_assoc, List.getElem?_append_right (by rw [hxt]; omega), hxt, List.getElem?_append_left (by omega)] at hu
          refine hr (j - f) x u hj ?_
          rw [← hu]; congr 1; omega
        · rw [List.getElem?_append_right (by simp only [List.length_append, hct]; omega), List.length_append, hct, List.getElem?_drop] at hj
          rw [List.getElem?_append_right (by simp only [List.length_append, hxt]; omega), List.length_append, hxt, List.getElem?_drop] at hu
          refine h.at_ i cs j x u hi ?_ ?_
          · rw [← hj]; congr 1; omega
          · rw [← hu]; congr 1; omega
    · rw [if_neg e] at hi'
      have hjl := get_lt hj
      rw [h.each c (List.mem_of_getElem? hi')] at hjl
      have hil' := get_lt hi'
      refine h.at_ i' c j x u hi' hj ?_
      rcases Nat.lt_or_gt_of_ne e with hlt | hlt
      · have : (i + 1) * size ≤ i' * size := Nat.mul_le_mul_right _ hlt
        rw [Nat.succ_mul] at this
        rw [List.getElem?_append_right (by simp only [List.length_append, hxt]; omega), List.length_append, hxt, List.getElem?_drop] at hu
        rw [← hu]; congr 1; omega
      · have : (i' + 1) * size ≤ i * size := Nat.mul_le_mul_right _ hlt
        rw [Nat.succ_mul] at this
        rw [List.append_assoc, List.getElem?_append_left (by rw [hxt]; omega), List.getElem?_take, if_pos (by omega)] at hu
        exact hu
end
theorem Elems.one {w : World} {Z : Nat → Prop} {size : Nat} {els : List (List Tr)} {xs : List Value} (h : Elems (Frz w Z) size els xs) : ∀ u ∈ xs, u.oneCell' = true := by
  intro u hu
  obtain ⟨q, hq⟩ := List.getElem?_of_mem hu
  obtain ⟨i, cs, j, x, _, _, _, hr⟩ := h.all hq
  exact hr.one

structure Pl where
  a : Option Addr
  c : Nat
  s : Nat
abbrev Rho := Nat → Nat → Pl
inductive Val (Kn : Nat → Nat → Prop) (ρ : Rho) (w : World) (Z Y : Nat → Prop) : AV → Value → Prop
  | any (v : Value) : Val Kn ρ w Z Y .any v
  | t {x : Tr} {v : Value} (h : Frz w Z x v) : Val Kn ρ w Z Y (.t x) v
  | nl (a : Option Addr) : Val Kn ρ w Z Y .nl (.slice a 0 0)
  | ln {els : List (List Tr)} {a : Option Addr} {n c size : Nat} {xs : List Value} (hr : Rs w size a n c xs) (hz : xs ≠ [] → Y (adr a).block) (hn : els.length = n) (he : Elems (Frz w Z) size els xs) : Val Kn ρ w Z Y (.ln els) (.slice a n c)
  | lp {cs : List AV} {p : Addr} {us : List Value} (hl : cs.length = us.length) (ho : ∀ u ∈ us, u.oneCell' = true) (hc : ∀ (j : Nat) u, us[j]? = some u → Y p.block ∧ w.cell? (p.add j) = some u) (hv : ∀ (j : Nat) x u, cs[j]? = some x → us[j]? = some u → Val Kn ρ w Z Y x u) : Val Kn ρ w Z Y (.lp cs) (.pointer (some p))
  | sl {i k n : Nat} (hk : Kn i k) (hc : n ≤ (ρ i k).c) (h0 : (ρ i k).a = .none → (ρ i k).c = 0) : Val Kn ρ w Z Y (.sl i k n) (.slice (ρ i k).a n (ρ i k).c)
  | sub {i k off n : Nat} {a : Option Addr} {c : Nat} (hk : Kn i k) (hn : n ≤ c) (hm : c ≤ maxLen) (h0 : a = .none → n = 0 ∧ c = 0) (ha : n ≠ 0 → a = some ((adr (ρ i k).a).add (off * (ρ i k).s))) : Val Kn ρ w Z Y (.sub i k off n) (.slice a n c)
  | ptr {i off b : Nat} (hk : Kn i 0) (ha : (ρ i 0).a = some ⟨b, 0, none⟩) : Val Kn ρ w Z Y (.ptr i off) (.pointer (some ⟨b, off, none⟩))
  | mv {i b : Nat} (hk : Kn i 0) (ha : (ρ i 0).a = some ⟨b, 0, none⟩) : Val Kn ρ w Z Y (.mv i) (.map (some b))
  | cl {els : List (List Tr)} {a : Option Addr} {n size : Nat} {xs : List Value} (hr : Rs w size a n n xs) (hz : xs ≠ [] → Z (adr a).block) (hn : els.length = n) (he : Elems (Frz w Z) size els xs) : Val Kn ρ w Z Y (.cl els) (.slice a n n)
  | rp {i k idx off : Nat} (hk : Kn i k) : Val Kn ρ w Z Y (.rp i k idx off) (.pointer (some ((adr (ρ i k).a).add (idx * (ρ i k).s + off))))
  | fn {f : Fn} {first cap : List AV} {us vs : List Value} (h1 : first.length = us.length) (h2 : cap.length = vs.length) (hu : ∀ (j : Nat) x u, first[j]? = some x → us[j]? = some u → Val Kn ρ w Z Y x u) (hv : ∀ (j : Nat) x u, cap[j]? = some x → vs[j]? = some u → Val Kn ρ w Z Y x u) : Val Kn ρ w Z Y (.fn f first cap) (.func f us.toArray vs.toArray)
  | agg {l : List AV} {us : List Value} (h1 : l.length = us.length) (ho : ∀ u ∈ us, u.oneCell' = true) (hu : ∀ (j : Nat) x u, l[j]? = some x → us[j]? = some u → Val Kn ρ w Z Y x u) : Val Kn ρ w Z Y (.agg l) (.agg us.toArray)
  | tup {l : List AV} {us : List Value} (h1 : l.length = us.length) (hu : ∀ (j : Nat) x u, l[j]? = some x → us[j]? = some u → Val Kn ρ w Z Y x u) : Val Kn ρ w Z Y (.tup l) (.tuple us.toArray)
structure AVs (R : AV → Value → Prop) (l : List AV) (us : List Value) : Prop where
  len : l.length = us.length
  at_ : ∀ (j : Nat) x u, l[j]? = some x → us[j]? = some u → R x u
theorem Val.mono {Kn Kn' : Nat → Nat → Prop} {ρ ρ' : Rho} {w w' : World} {Z Z' Y Y' : Nat → Prop} (hk : ∀ i k, Kn i k → Kn' i k ∧ ρ' i k = ρ i k) (hz : ∀ b, Z b → Z' b ∧ w'.heap[b]? = w.heap[b]?) (hy : ∀ b, Y b → Y' b ∧ w'.heap[b]? = w.heap[b]?)
    {x : AV} {v : Value} (h : Val Kn ρ w Z Y x v) : Val Kn' ρ' w' Z' Y' x v := by
  induction h with
  | any v => exact .any v
  | t h => exact .t (h.mono hz)
  | nl a => exact .nl a
  | ln hr hz' hn he => exact .ln (hr.keep fun hne => (hy _ (hz' hne)).2) (fun hne => (hy _ (hz' hne)).1) hn (he.mono fun _ _ h => h.mono hz)
  | lp hl ho hc _ ih =>
    refine .lp hl ho (fun j u hj => ⟨(hy _ (hc j u hj).1).1, ?_⟩) ih
    rw [← (hc j u hj).2]
    exact World.cell?_of_block (by rw [add_block]; exact (hy _ (hc j u hj).1).2)
  | sl hk' hc h0 => rw [← (hk _ _ hk').2] at hc h0 ⊢; exact .sl (hk _ _ hk').1 hc h0
  | sub hk' hn hm h0 ha => exact .sub (hk _ _ hk').1 hn hm h0 (by rw [(hk _ _ hk').2]; exact ha)
  | ptr hk' ha => exact .ptr (hk _ _ hk').1 (by rw [(hk _ _ hk').2]; exact ha)
  | mv hk' ha => exact .mv (hk _ _ hk').1 (by rw [(hk _ _ hk').2]; exact ha)
  | cl hr hz' hn he => exact .cl (hr.keep fun hne => (hz _ (hz' hne)).2) (fun hne => (hz _ (hz' hne)).1) hn (he.mono fun _ _ h => h.mono hz)
  | rp hk' => rw [← (hk _ _ hk').2]; exact .rp (hk _ _ hk').1
  | fn h1 h2 _ _ ih1 ih2 => exact .fn h1 h2 ih1 ih2
  | agg h1 ho _ ih => exact .agg h1 ho ih
  | tup h1 _ ih => exact .tup h1 ih
def AV.flat : AV → Option (List AV)
  | .any => none
  | .tup _ => none
  | .agg l => some l
  | .t x => some [.t x]
  | .nl => some [.nl]
  | .ln els => some [.ln els]
  | .lp cs => some [.lp cs]
  | .sl i k n => some [.sl i k n]
  | .sub i k off n => some [.sub i k off n]
  | .ptr i off => some [.ptr i off]
  | .mv i => some [.mv i]
  | .cl els => some [.cl els]
  | .rp i k idx off => some [.rp i k idx off]
  | .fn f a b => some [.fn f a b]
theorem Val.flat {Kn : Nat → Nat → Prop} {ρ : Rho} {w : World} {Z Y : Nat → Prop} {x : AV} {v : Value} (h : Val Kn ρ w Z Y x v) {cs : List AV} (hf : x.flat = some cs) :
    ∃ us : List Value, v.cells = us.toArray ∧ AVs (Val Kn ρ w Z Y) cs us ∧ ∀ u ∈ us, u.oneCell' = true := by
  have one : ∀ (x : AV) (v : Value), Val Kn ρ w Z Y x v → v.oneCell' = true → ∃ us : List Value, v.cells = us.toArray ∧ AVs (Val Kn ρ w Z Y) [x] us ∧ ∀ u ∈ us, u.oneCell' = true := by
    intro x v h h1
    refine ⟨[v], ?_, ⟨rfl, fun j y u hj hu => ?_⟩, fun u hu => by simp at hu; subst hu; exact h1⟩
    · cases v <;> first | rfl | cases h1
    · cases j with
      | zero => simp at hj hu; subst hj hu; exact h
      | succ j => simp at hj
  cases h with
  | any | tup => cases hf
  | agg h1 ho hu => cases hf; exact ⟨_, rfl, ⟨h1, hu⟩, ho⟩
  | t h => cases hf; exact one _ _ (.t h) h.one
  | nl a => cases hf; exact one _ _ (.nl a) rfl
  | ln hr hz hn he => cases hf; exact one _ _ (.ln hr hz hn he) rfl
  | lp hl ho hc hv => cases hf; exact one _ _ (.lp hl ho hc hv) rfl
  | sl hk hc h0 => cases hf; exact one _ _ (.sl hk hc h0) rfl
  | sub hk hn hm h0 ha => cases hf; exact one _ _ (.sub hk hn hm h0 ha) rfl
  | ptr hk ha => cases hf; exact one _ _ (.ptr hk ha) rfl
  | mv hk ha => cases hf; exact one _ _ (.mv hk ha) rfl
  | cl hr hz hn he => cases hf; exact one _ _ (.cl hr hz hn he) rfl
  | rp hk => cases hf; exact one _ _ (.rp hk) rfl
  | fn h1 h2 hu hv => cases hf; exact one _ _ (.fn h1 h2 hu hv) rfl
end Go.Proofs.Ytmljglphegeilaa

namespace Go.Proofs.Ytmljglphegeilaa
set_option linter.unusedVariables false
set_option linter.unusedSimpArgs false
set_option linter.unnecessarySimpa false
open Go.RowKit

def Kn (heap : List Ob) (i k : Nat) : Prop := ∃ o, heap[i]? = some o ∧ k < o.lim
def Ob.blk (ρ : Rho) (i : Nat) : Ob → Option Nat
  | .box _ _ => (ρ i 0).a.map (·.block)
  | .row k _ _ _ => if (ρ i k).c = 0 then none else (ρ i k).a.map (·.block)
  | .gone _ => none
  | .hole => none
  | .mp _ => (ρ i 0).a.map (·.block)
  | .ra k _ _ => if (ρ i k).c = 0 then none else (ρ i k).a.map (·.block)
def Ob.holds (R : AV → Value → Prop) (ρ : Rho) (w : World) (Z : Nat → Prop) (i : Nat) : Ob → Prop
  | .box T cs => ∃ b us, (ρ i 0).a = some ⟨b, 0, none⟩ ∧ w.heap[b]? = some (.cells us.toArray T (0, 0)) ∧ AVs R cs us ∧ ∀ u ∈ us, u.oneCell' = true
  | .row k E size els => (ρ i k).s = size ∧ ∃ xs, Elems (Frz w Z) size els xs ∧ (Res.row (ρ i k).a els.length (ρ i k).c E size xs).holds 0 w
  | .gone _ => True
  | .hole => True
  | .mp es => ∃ b arr clock, (ρ i 0).a = some ⟨b, 0, none⟩ ∧ w.heap[b]? = some (.map arr clock) ∧ arr.toList.map (fun e => (e.key, e.val)) = es.map (fun p => (Value.int .i64 p.1, Value.int .i64 p.2))
  | .ra k E cs => (ρ i k).s = 1 ∧ ∃ us, AVs R cs us ∧ (∀ u ∈ us, u.oneCell' = true) ∧ (Res.row (ρ i k).a cs.length (ρ i k).c E 1 us).holds 0 w
theorem Ob.holds_mono {R R' : AV → Value → Prop} {ρ ρ' : Rho} {w w' : World} {Z Z' : Nat → Prop} {i j : Nat} {o : Ob} (hR : ∀ x v, R x v → R' x v) (hρ : ∀ k, k < o.lim → ρ' j k = ρ i k) (hz : ∀ b, Z b → Z' b ∧ w'.heap[b]? = w.heap[b]?)
    (hb : ∀ b, o.blk ρ i = some b → w'.heap[b]? = w.heap[b]?) (h : o.holds R ρ w Z i) : o.holds R' ρ' w' Z' j := by
  cases o with
  | box T cs =>
    obtain ⟨b, us, h1, h2, h3, h4⟩ := h
    refine ⟨b, us, by rw [hρ 0 (Nat.le_refl _)]; exact h1, ?_, ⟨h3.len, fun j x u a b => hR _ _ (h3.at_ j x u a b)⟩, h4⟩
    rw [hb b (by simp [Ob.blk, h1])]; exact h2
  | row k E size els =>
    obtain ⟨h1, xs, h2, h3⟩ := h
    have e := hρ k (Nat.le_refl _)
    refine ⟨by rw [e]; exact h1, xs, h2.mono fun _ _ h => h.mono hz, ?_⟩
    rw [e]
    exact holds_keep h3 fun b hb' => ⟨hb b (by simpa [Ob.blk, Res.blk] using hb'), Nat.zero_le _⟩
  | gone => trivial
  | hole => trivial
  | mp es =>
    obtain ⟨b, arr, c, h1, h2, h3⟩ := h
    exact ⟨b, arr, c, by rw [hρ 0 (Nat.le_refl _)]; exact h1, by rw [hb b (by simp [Ob.blk, h1])]; exact h2, h3⟩
  | ra k E cs =>
    obtain ⟨h1, us, h2, h3, h4⟩ := h
    have e := hρ k (Nat.le_refl _)
    refine ⟨by rw [e]; exact h1, us, ⟨h2.len, fun j x u a b => hR _ _ (h2.at_ j x u a b)⟩, h3, ?_⟩
    rw [e]
    exact holds_keep h4 fun b hb' => ⟨hb b (by simpa [Ob.blk, Res.blk] using hb'), Nat.zero_le _⟩
theorem Ob.blk_mono {ρ ρ' : Rho} {i j : Nat} {o : Ob} (hρ : ∀ k, k < o.lim → ρ' j k = ρ i k) : o.blk ρ' j = o.blk ρ i := by
  cases o with
  | box T cs => simp only [Ob.blk]; rw [hρ 0 (Nat.le_refl _)]
  | row k E size els => simp only [Ob.blk]; rw [hρ k (Nat.le_refl _)]
  | gone => rfl
  | hole => rfl
  | mp es => simp only [Ob.blk]; rw [hρ 0 (Nat.le_refl _)]
  | ra k E cs => simp only [Ob.blk]; rw [hρ k (Nat.le_refl _)]

structure HRep (heap : List Ob) (w : World) (ρ : Rho) (Z Y : Nat → Prop) : Prop where
  obs : ∀ (i : Nat) (o : Ob), heap[i]? = some o → o.holds (Val (Kn heap) ρ w Z Y) ρ w Z i
  apart : ∀ (i j : Nat) (o o' : Ob) (b : Nat), heap[i]? = some o → heap[j]? = some o' → o.blk ρ i = some b → o'.blk ρ j = some b → i = j
  own : ∀ (i : Nat) (o : Ob) (b : Nat), heap[i]? = some o → o.blk ρ i = some b → b < w.heap.size ∧ ¬ Y b
  zy : ∀ b, Z b → Y b
  ylt : ∀ b, Y b → b < w.heap.size
section
variable {heap : List Ob} {w w' : World} {ρ ρ' : Rho} {Z Z' Y Y' : Nat → Prop}
theorem HRep.notin (h : HRep heap w ρ Z Y) {i : Nat} {o : Ob} (hi : heap[i]? = some o) {b : Nat} (hy : Y b) : o.blk ρ i ≠ some b := fun e => (h.own i o b hi e).2 hy
theorem Kn.set {o o' : Ob} {i j k : Nat} (hi : heap[i]? = some o) (hv : o.lim ≤ o'.lim) (h : Kn heap j k) : Kn (heap.set i o') j k := by
  obtain ⟨p, hp, hk⟩ := h
  by_cases e : i = j
  · subst e
    rw [hi] at hp; cases hp
    exact ⟨o', by rw [List.getElem?_set, if_pos rfl, if_pos (get_lt hi)], Nat.lt_of_lt_of_le hk hv⟩
  · exact ⟨p, by rw [List.getElem?_set, if_neg e]; exact hp, hk⟩
def setsAt (heap : List Ob) (N : Nat) (L : List Ob) : List Ob := heap.take N ++ L ++ heap.drop (N + L.length)
inductive AtL (heap : List Ob) (N : Nat) (L heap' : List Ob) : Prop
  | push (hN : heap.length = N) (hh : heap ++ L = heap')
  | fill (hl : ∀ q, q < L.length → heap[N + q]? = some .hole) (hh : setsAt heap N L = heap')
theorem setsAt_get {N : Nat} {L : List Ob} (hl : ∀ q, q < L.length → heap[N + q]? = some .hole) (j : Nat) : (setsAt heap N L)[j]? = if N ≤ j ∧ j < N + L.length then L[j - N]? else heap[j]? := by
  unfold setsAt
  by_cases h0 : L.length = 0
  · have : L = [] := List.eq_nil_of_length_eq_zero h0
    subst this
    rw [if_neg (by simp only [List.length_nil]; omega)]
    simp
  · have h1 := get_lt (hl 0 (by omega))
    have h2 := get_lt (hl (L.length - 1) (by omega))
    have e1 : (heap.take N).length = N := by rw [List.length_take]; omega
    by_cases c1 : j < N
    · rw [if_neg (by omega), List.append_assoc, List.getElem?_append_left (by omega), List.getElem?_take, if_pos c1]
    · by_cases c2 : j < N + L.length
      · rw [if_pos ⟨by omega, c2⟩, List.append_assoc, List.getElem?_append_right (by omega), e1, List.getElem?_append_left (by omega)]
      · rw [if_neg (by omega), List.getElem?_append_right (by simp only [List.length_append]; omega), List.length_append, e1, List.getElem?_drop]
        congr 1; omega
theorem AtL.new {N : Nat} {L heap' : List Ob} (h : AtL heap N L heap') {q : Nat} {o : Ob} (hq : L[q]? = some o) : heap'[N + q]? = some o := by
  have := get_lt hq
  cases h with
  | push hN hh => subst hN hh; rw [List.getElem?_append_right (by omega), Nat.add_sub_cancel_left]; exact hq
  | fill hl hh => subst hh; rw [setsAt_get hl, if_pos ⟨by omega, by omega⟩, Nat.add_sub_cancel_left]; exact hq
theorem AtL.old {N : Nat} {L heap' : List Ob} (h : AtL heap N L heap') {j : Nat} {o : Ob} (hj : heap[j]? = some o) (ho : 0 < o.lim) : heap'[j]? = some o ∧ ∀ q, q < L.length → j ≠ N + q := by
  cases h with
  | push hN hh => subst hN hh; have := get_lt hj; exact ⟨by rw [List.getElem?_append_left this]; exact hj, fun q _ => by omega⟩
  | fill hl hh =>
    subst hh
    have hne : ∀ q, q < L.length → j ≠ N + q := fun q hq e => by
      rw [e, hl q hq] at hj; cases hj; exact absurd ho (by simp [Ob.lim])
    refine ⟨?_, hne⟩
    rw [setsAt_get hl, if_neg (fun hc => hne (j - N) (by omega) (by omega))]
    exact hj
theorem AtL.part {N : Nat} {L heap' : List Ob} (h : AtL heap N L heap') {j : Nat} {o : Ob} (hj : heap'[j]? = some o) : (heap[j]? = some o ∧ ∀ q, q < L.length → j ≠ N + q) ∨ ∃ q, j = N + q ∧ L[q]? = some o := by
  cases h with
  | push hN hh =>
    subst hN hh
    by_cases e : j < heap.length
    · rw [List.getElem?_append_left e] at hj; exact .inl ⟨hj, fun q _ => by omega⟩
    · rw [List.getElem?_append_right (by omega)] at hj; exact .inr ⟨j - heap.length, by omega, hj⟩
  | fill hl hh =>
    subst hh
    rw [setsAt_get hl] at hj
    split at hj
    · rename_i hc; exact .inr ⟨j - N, by omega, hj⟩
    · rename_i hc; exact .inl ⟨hj, fun q hq e => hc (by omega)⟩
theorem AtL.kn {N : Nat} {L heap' : List Ob} (h : AtL heap N L heap') {j k : Nat} (hj : Kn heap j k) : Kn heap' j k ∧ ∀ q, q < L.length → j ≠ N + q := by
  obtain ⟨o, ho, hk⟩ := hj
  obtain ⟨h1, h2⟩ := h.old ho (by omega)
  exact ⟨⟨o, h1, hk⟩, h2⟩
theorem AtL.one {N : Nat} {o : Ob} {heap' : List Ob} (h : AtL heap N [o] heap') : heap'[N]? = some o := h.new (q := 0) rfl
theorem HRep.val (h : HRep heap w ρ Z Y) {heap' : List Ob} (hk : ∀ i k, Kn heap i k → Kn heap' i k ∧ ρ' i k = ρ i k) (hz : ∀ b, Z b → Z' b) (hy : ∀ b, Y b → Y' b ∧ w'.heap[b]? = w.heap[b]?) {x : AV} {v : Value}
    (hv : Val (Kn heap) ρ w Z Y x v) : Val (Kn heap') ρ' w' Z' Y' x v :=
  hv.mono hk (fun b hb => ⟨hz b hb, (hy b (h.zy b hb)).2⟩) hy
theorem HRep.turn (h : HRep heap w ρ Z Y) {i : Nat} {o o' : Ob} (hi : heap[i]? = some o) (hv : o.lim ≤ o'.lim) (hρ : ∀ j k, Kn heap j k → ρ' j k = ρ j k) (hs : w.heap.size ≤ w'.heap.size)
    (hk : ∀ b, b < w.heap.size → o.blk ρ i ≠ some b → w'.heap[b]? = w.heap[b]?) (hh : o'.holds (Val (Kn (heap.set i o')) ρ' w' Z Y) ρ' w' Z i)
    (hb : ∀ b, o'.blk ρ' i = some b → o.blk ρ i = some b ∨ (w.heap.size ≤ b ∧ b < w'.heap.size)) : HRep (heap.set i o') w' ρ' Z Y := by
  have hy : ∀ b, Y b → Y b ∧ w'.heap[b]? = w.heap[b]? := fun b hb => ⟨hb, hk b (h.ylt b hb) (h.notin hi hb)⟩
  have hz : ∀ b, Z b → Z b ∧ w'.heap[b]? = w.heap[b]? := fun b hb => ⟨hb, (hy b (h.zy b hb)).2⟩
  have hkn : ∀ j k, Kn heap j k → Kn (heap.set i o') j k ∧ ρ' j k = ρ j k := fun j k hj => ⟨hj.set hi hv, hρ j k hj⟩
  have old : ∀ (j : Nat) (p : Ob), (heap.set i o')[j]? = some p → j ≠ i → heap[j]? = some p := fun j p hj hne => by rw [List.getElem?_set, if_neg (Ne.symm hne)] at hj; exact hj
  have new : ∀ (p : Ob), (heap.set i o')[i]? = some p → p = o' := fun p hp => by rw [List.getElem?_set, if_pos rfl, if_pos (get_lt hi)] at hp; cases hp; rfl
  have same : ∀ (j : Nat) (p : Ob), heap[j]? = some p → p.blk ρ' j = p.blk ρ j := fun j p hj => Ob.blk_mono fun k hk' => hρ j k ⟨p, hj, hk'⟩
  have newblk : ∀ (j : Nat) (p : Ob) (b : Nat), heap[j]? = some p → j ≠ i → p.blk ρ j = some b → o'.blk ρ' i ≠ some b := by
    intro j p b hj hne hpb ho
    rcases hb b ho with e | e
    · exact hne (h.apart j i p o b hj hi hpb e)
    · have := (h.own j p b hj hpb).1; omega
  refine ⟨fun j p hj => ?_, fun j k p q b hj hk' hp hq => ?_, fun j p b hj hp => ?_, h.zy, fun b hb => Nat.lt_of_lt_of_le (h.ylt b hb) hs⟩
  · by_cases e : j = i
    · subst e; rw [new p hj]; exact hh
    · have hj' := old j p hj e
      exact Ob.holds_mono (fun x v hx => hx.mono hkn hz hy) (fun k hk' => hρ j k ⟨p, hj', hk'⟩) hz (fun b hb' => hk b (h.own j p b hj' hb').1 fun e' => e (h.apart j i p o b hj' hi hb' e')) (h.obs j p hj')
  · by_cases e : j = i
    · by_cases e' : k = i
      · rw [e, e']
      · rw [e] at hj hp
        rw [new p hj] at hp
        have hk2 := old k q hk' e'
        rw [same k q hk2] at hq
        exact absurd hp (newblk k q b hk2 e' hq)
    · have hj2 := old j p hj e
      rw [same j p hj2] at hp
      by_cases e' : k = i
      · rw [e'] at hk' hq
        rw [new q hk'] at hq
        exact absurd hq (newblk j p b hj2 e hp)
      · have hk2 := old k q hk' e'
        rw [same k q hk2] at hq
        exact h.apart j k p q b hj2 hk2 hp hq
  · by_cases e : j = i
    · rw [e] at hj hp
      rw [new p hj] at hp
      rcases hb b hp with e' | e'
      · have := h.own i o b hi e'
        exact ⟨Nat.lt_of_lt_of_le this.1 hs, this.2⟩
      · exact ⟨e'.2, fun hy' => by have := h.ylt b hy'; omega⟩
    · have hj2 := old j p hj e
      rw [same j p hj2] at hp
      have := h.own j p b hj2 hp
      exact ⟨Nat.lt_of_lt_of_le this.1 hs, this.2⟩
theorem HRep.push (h : HRep heap w ρ Z Y) {N : Nat} {L heap' : List Ob} (hat : AtL heap N L heap') (hρ : ∀ j k, Kn heap j k → ρ' j k = ρ j k) (hs : w.heap.size ≤ w'.heap.size) (hk : ∀ b, b < w.heap.size → w'.heap[b]? = w.heap[b]?)
    (hz : ∀ b, Z b → Z' b) (hy : ∀ b, Y b → Y' b) (hzy : ∀ b, Z' b → Y' b) (hyn : ∀ b, Y' b → Y b ∨ (w.heap.size ≤ b ∧ b < w'.heap.size))
    (hL : ∀ (q : Nat) (o : Ob), L[q]? = some o → o.holds (Val (Kn heap') ρ' w' Z' Y') ρ' w' Z' (N + q)) (ha : ∀ (q r : Nat) (o o' : Ob) (b : Nat), L[q]? = some o → L[r]? = some o' → o.blk ρ' (N + q) = some b → o'.blk ρ' (N + r) = some b → q = r)
    (ho : ∀ (q : Nat) (o : Ob) (b : Nat), L[q]? = some o → o.blk ρ' (N + q) = some b → w.heap.size ≤ b ∧ b < w'.heap.size ∧ ¬ Y' b) : HRep heap' w' ρ' Z' Y' := by
  have hy' : ∀ b, Y b → Y' b ∧ w'.heap[b]? = w.heap[b]? := fun b hb => ⟨hy b hb, hk b (h.ylt b hb)⟩
  have hz' : ∀ b, Z b → Z' b ∧ w'.heap[b]? = w.heap[b]? := fun b hb => ⟨hz b hb, (hy' b (h.zy b hb)).2⟩
  have hkn : ∀ j k, Kn heap j k → Kn heap' j k ∧ ρ' j k = ρ j k := fun j k hj => ⟨(hat.kn hj).1, hρ j k hj⟩
  have same : ∀ (j : Nat) (p : Ob), heap[j]? = some p → p.blk ρ' j = p.blk ρ j := fun j p hj => Ob.blk_mono fun k hk' => hρ j k ⟨p, hj, hk'⟩
  have part : ∀ (j : Nat) (p : Ob), heap'[j]? = some p → (heap[j]? = some p) ∨ (∃ q, j = N + q ∧ L[q]? = some p) := fun j p hj => (hat.part hj).elim (fun h => .inl h.1) .inr
  refine ⟨fun j p hj => ?_, fun j k p q b hj hk' hp hq => ?_, fun j p b hj hp => ?_, hzy, fun b hb => ?_⟩
  · rcases part j p hj with hj | ⟨q, rfl, hq⟩
    · exact Ob.holds_mono (fun x v hx => hx.mono hkn hz' hy') (fun k hk' => hρ j k ⟨p, hj, hk'⟩) hz' (fun b hb' => hk b (h.own j p b hj hb').1) (h.obs j p hj)
    · exact hL q p hq
  · rcases part j p hj with hj | ⟨m, rfl, hm⟩ <;> rcases part k q hk' with hk' | ⟨n, rfl, hn⟩
    · rw [same j p hj] at hp
      rw [same k q hk'] at hq
      exact h.apart j k p q b hj hk' hp hq
    · rw [same j p hj] at hp
      have := (h.own j p b hj hp).1
      have := (ho n q b hn hq).1
      omega
    · rw [same k q hk'] at hq
      have := (h.own k q b hk' hq).1
      have := (ho m p b hm hp).1
      omega
    · rw [ha m n p q b hm hn hp hq]
  · rcases part j p hj with hj | ⟨q, rfl, hq⟩
    · rw [same j p hj] at hp
      have h1 := h.own j p b hj hp
      refine ⟨Nat.lt_of_lt_of_le h1.1 hs, fun hb => ?_⟩
      rcases hyn b hb with e | e
      · exact h1.2 e
      · omega
    · exact (ho q p b hq hp).2
  · rcases hyn b hb with e | e
    · exact Nat.lt_of_lt_of_le (h.ylt b e) hs
    · exact e.2
theorem HRep.freeze (h : HRep heap w ρ Z Y) {i k : Nat} {E : TypeId} {size : Nat} {els : List (List Tr)} (hi : heap[i]? = some (.row k E size els)) :
    HRep (heap.set i (.gone k)) w ρ (fun b => Z b ∨ (Ob.row k E size els).blk ρ i = some b) (fun b => Y b ∨ (Ob.row k E size els).blk ρ i = some b) := by
  have hkn : ∀ j k', Kn heap j k' → Kn (heap.set i (.gone k)) j k' ∧ ρ j k' = ρ j k' := fun j k' hj => ⟨hj.set hi (Nat.le_refl _), rfl⟩
  have old : ∀ (j : Nat) (p : Ob), (heap.set i (.gone k))[j]? = some p → (j ≠ i ∧ heap[j]? = some p) ∨ p = .gone k := fun j p hj => by
    rw [List.getElem?_set] at hj
    split at hj
    · split at hj <;> cases hj
      exact .inr rfl
    · rename_i e; exact .inl ⟨Ne.symm e, hj⟩
  refine ⟨fun j p hj => ?_, fun j m p q b hj hm hp hq => ?_, fun j p b hj hp => ?_, fun b hb => hb.elim (fun h1 => .inl (h.zy b h1)) .inr, fun b hb => hb.elim (h.ylt b) fun e => (h.own i _ b hi e).1⟩
  · rcases old j p hj with ⟨hne, hj⟩ | rfl
    · exact Ob.holds_mono (fun x v hx => hx.mono hkn (fun b hb => ⟨.inl hb, rfl⟩) (fun b hb => ⟨.inl hb, rfl⟩)) (fun _ _ => rfl) (fun b hb => ⟨.inl hb, rfl⟩) (fun _ _ => rfl) (h.obs j p hj)
    · trivial
  · rcases old j p hj with ⟨_, hj⟩ | rfl
    · rcases old m q hm with ⟨_, hm⟩ | rfl
      · exact h.apart j m p q b hj hm hp hq
      · cases hq
    · cases hp
  · rcases old j p hj with ⟨hne, hj⟩ | rfl
    · have h1 := h.own j p b hj hp
      refine ⟨h1.1, fun hb => ?_⟩
      rcases hb with hb | hb
      · exact h1.2 hb
      · exact hne (h.apart j i p _ b hj hi hp hb)
    · cases hp
end

structure Env where
  W : World
  D : Nat → Prop
  H : List Ob
  ρ : Rho
  Z : Nat → Prop
  Y : Nat → Prop
  big : ∀ b, W.heap.size ≤ b → D b
  yd : ∀ b, Y b → ¬ D b
structure Ok (e : Env) (heap : List Ob) (w : World) (ρ : Rho) (Z Y : Nat → Prop) : Prop where
  rep : HRep heap w ρ Z Y
  dom : ∀ (i : Nat) (o : Ob) (b : Nat), heap[i]? = some o → o.blk ρ i = some b → e.D b
  zone : ∀ b, Z b → e.Z b ∨ e.D b
  z0 : ∀ b, e.Z b → Z b
  y0 : ∀ b, e.Y b → Y b
  rho : ∀ i k, Kn e.H i k → Kn heap i k ∧ ρ i k = e.ρ i k
  os : w.os = e.W.os
  tape : w.tape = e.W.tape
  output : w.output = e.W.output
  size : e.W.heap.size ≤ w.heap.size
  keep : ∀ b, ¬ e.D b → w.heap[b]? = e.W.heap[b]?
structure Fr where
  n : Nat
  h : Nat
structure St where
  n : Fr
  tmps : Nat → AV
  heap : List Ob
structure Rp (e : Env) (α : St) (a : Act) (w : World) (ρ : Rho) (Z Y : Nat → Prop) : Prop where
  ok : Ok e α.heap w ρ Z Y
  defers : a.defers = []
  n : a.tmps.size = α.n.n
  hl : e.H.length ≤ α.n.h
  at_ : ∀ (t : Nat) v, a.tmps[t]? = some v → Val (Kn α.heap) ρ w Z Y (α.tmps t) v
def Rep (e : Env) (α : St) (a : Act) (w : World) : Prop := ∃ ρ Z Y, Rp e α a w ρ Z Y
end Go.Proofs.Ytmljglphegeilaa

namespace Go.Proofs.Ytmljglphegeilaa
set_option linter.unusedVariables false
set_option linter.unusedSimpArgs false
set_option linter.unnecessarySimpa false
open Go.RowKit
inductive Spec where
  | val (c : Value)
  | any (p : Value → Prop) (R : Value → Nat → Nat → World → Prop)
def Spec.pure : Spec → Value → Prop
  | .val c, v => v = c
  | .any p _, v => p v
def Spec.fact : Spec → Value → Nat × Nat → World → Prop
  | .val _, _, _, _ => True
  | .any _ R, v, g, w => R v g.1 g.2 w
def Spec.own : Spec → Nat × Nat → Nat → Prop
  | .val _, _, _ => False
  | .any _ _, g, k => g.1 ≤ k ∧ k < g.2
def Spec.good (S : Spec) : Prop := (∃ v, S.pure v) ∧ ∀ v g w w', Below w.heap.size w w' → S.fact v g w → S.fact v g w'
theorem Spec.good_val (c : Value) : (Spec.val c).good := ⟨⟨c, rfl⟩, fun _ _ _ _ _ _ => trivial⟩
abbrev Given := List (Option Tmp × Value × (Nat × Nat) × Spec)
def StepOk (P : Program) (ops : Array Oper) (w0 : World) (o : Oper) (a : Act) (F : Given) (S : Spec) : Prop :=
  ∀ w, Below w0.heap.size w0 w → (∀ x ∈ F, (∃ t, x.1 = some t ∧ t ∈ o.looksAt ops) → x.2.2.2.fact x.2.1 x.2.2.1 w) →
    if Region.wanted o (yielded ops a.tmps) then o.wp P a w (fun a' w' => a'.defers = a.defers ∧ Below w.heap.size w w' ∧ ∃ v, a' = a.put o.dst v ∧ S.pure v ∧ S.fact v (w.heap.size, w'.heap.size) w') (fun _ _ _ => False)
    else S.pure undef ∧ S.fact undef (w.heap.size, w.heap.size) w
def StepFree (P : Program) (ops : Array Oper) (o : Oper) (a : Act) (c : Value) : Prop :=
  ∀ w, if Region.wanted o (yielded ops a.tmps) then o.wp P a w (fun a' w' => a'.defers = a.defers ∧ w' = w ∧ ∃ v, a' = a.put o.dst v ∧ v = c) (fun _ _ _ => False) else c = undef
def opVal (P : Program) (ops : Array Oper) (o : Oper) (a : Act) : Value :=
  if Region.wanted o (yielded ops a.tmps) then (match (execOp a.eval o).run P default with | .ok (.value v) _ => v | _ => undef) else undef
def Apart (w0 w : World) (F : Given) : Prop :=
  (∀ x ∈ F, ∀ k, x.2.2.2.own x.2.2.1 k → w0.heap.size ≤ k ∧ k < w.heap.size) ∧ ∀ x ∈ F, ∀ y ∈ F, x.1 ≠ y.1 → ∀ k, x.2.2.2.own x.2.2.1 k → ¬ y.2.2.2.own y.2.2.1 k
inductive Cls where
  | head (S : Spec)
  | free
  | tail
def Cls.kind : Cls → Nat
  | .head _ => 0
  | .free => 1
  | .tail => 2
def Cls.spec : Cls → Spec
  | .head S => S
  | .free => .val undef
  | .tail => .val undef
def Calm (Q : Exit → Act → World → Prop) : Exit → Act → World → Prop := fun e a w => e = .normal ∧ Q .normal a w
def Chain (P : Program) (ops : Array Oper) (w0 : World) (Q : Exit → Act → World → Prop) : List Cls → List Oper → Act → Given → List Oper → Prop
  | [], [], a, F, T => ∀ w, Below w0.heap.size w0 w → (∀ x ∈ F, x.2.2.2.fact x.2.1 x.2.2.1 w) → Apart w0 w F → wpList P ops (Calm Q) T a w
  | .head S :: Ss, o :: rest, a, F, T => S.good ∧ StepOk P ops w0 o a F S ∧ ∀ v g, S.pure v → Chain P ops w0 Q Ss rest (a.put o.dst v) ((o.dst, v, g, S) :: F) T
  | .free :: Ss, o :: rest, a, F, T => StepFree P ops o a (opVal P ops o a) ∧ ∀ g, Chain P ops w0 Q Ss rest (a.put o.dst (opVal P ops o a)) ((o.dst, opVal P ops o a, g, .val (opVal P ops o a)) :: F) T
  | .tail :: Ss, o :: rest, a, F, T => Chain P ops w0 Q Ss rest a F (T ++ [o])
  | _, _, _, _, _ => False
theorem put_get (a : Act) (d : Option Tmp) (v : Value) (t : Nat) : (a.put d v).tmps[t]? = if d = some t then (if t < a.tmps.size then some v else none) else a.tmps[t]? := by
  cases d with
  | none => simp [Act.put]
  | some e =>
    by_cases h : e = t
    · subst h; simp [Act.put, Array.getElem?_setIfInBounds]
    · simp [Act.put, h]
theorem put_defers (a : Act) (d : Option Tmp) (v : Value) : (a.put d v).defers = a.defers := by cases d <;> rfl

section
variable {P : Program} {ops : Array Oper} {w0 : World} {Q : Exit → Act → World → Prop} {Ss : List Cls} {o : Oper} {rest : List Oper} {a : Act} {F : Given} {T : List Oper}
theorem Chain.fin (k : ∀ w, Below w0.heap.size w0 w → (∀ x ∈ F, x.2.2.2.fact x.2.1 x.2.2.1 w) → Apart w0 w F → wpList P ops (Calm Q) T a w) : Chain P ops w0 Q [] [] a F T := k
theorem Chain.pos (c : Value) (hw : Region.wanted o (yielded ops a.tmps) = true)
    (h : ∀ w, Below w0.heap.size w0 w → (∀ x ∈ F, (∃ t, x.1 = some t ∧ t ∈ o.looksAt ops) → x.2.2.2.fact x.2.1 x.2.2.1 w) → o.wp P a w (fun a' w' => a'.defers = a.defers ∧ Below w.heap.size w w' ∧ ∃ v, a' = a.put o.dst v ∧ v = c) (fun _ _ _ => False))
    (k : ∀ g, Chain P ops w0 Q Ss rest (a.put o.dst c) ((o.dst, c, g, .val c) :: F) T) : Chain P ops w0 Q (.head (.val c) :: Ss) (o :: rest) a F T := by
  refine ⟨Spec.good_val c, fun w hb hx => ?_, fun v g hv => by cases hv; exact k g⟩
  rw [if_pos hw]
  exact Oper.wp_mono (fun a' w' ⟨h1, h2, v, h3, h4⟩ => ⟨h1, h2, v, h3, h4, trivial⟩) (h w hb hx)
theorem Chain.given (p : Value → Prop) (R : Value → Nat → Nat → World → Prop) (hg : ∃ v, p v) (hR : ∀ v lo hi w w', Below w.heap.size w w' → R v lo hi w → R v lo hi w')
    (hw : Region.wanted o (yielded ops a.tmps) = true)
    (h : ∀ w, Below w0.heap.size w0 w → (∀ x ∈ F, (∃ t, x.1 = some t ∧ t ∈ o.looksAt ops) → x.2.2.2.fact x.2.1 x.2.2.1 w) → o.wp P a w (fun a' w' => a'.defers = a.defers ∧ Below w.heap.size w w' ∧ ∃ v, a' = a.put o.dst v ∧ p v ∧ R v w.heap.size w'.heap.size w') (fun _ _ _ => False))
    (k : ∀ v g, p v → Chain P ops w0 Q Ss rest (a.put o.dst v) ((o.dst, v, g, .any p R) :: F) T) : Chain P ops w0 Q (.head (.any p R) :: Ss) (o :: rest) a F T := by
  refine ⟨⟨hg, fun v g w w' => hR v g.1 g.2 w w'⟩, fun w hb hx => ?_, k⟩
  rw [if_pos hw]
  exact h w hb hx
theorem Chain.skip {c : Value} (hw : Region.wanted o (yielded ops a.tmps) = false) (hc : c = undef)
    (k : ∀ g, Chain P ops w0 Q Ss rest (a.put o.dst c) ((o.dst, c, g, .val c) :: F) T) : Chain P ops w0 Q (.head (.val c) :: Ss) (o :: rest) a F T := by
  subst hc
  refine ⟨Spec.good_val _, fun w hb hx => ?_, fun v g hv => by cases hv; exact k g⟩
  rw [hw]
  exact ⟨rfl, trivial⟩
theorem Chain.loose (c : Value) (hw : Region.wanted o (yielded ops a.tmps) = true) (hr : ∀ w, (execOp a.eval o).run P w = .ok (.value c) w)
    (k : ∀ g, Chain P ops w0 Q Ss rest (a.put o.dst c) ((o.dst, c, g, .val c) :: F) T) : Chain P ops w0 Q (.free :: Ss) (o :: rest) a F T := by
  have e : opVal P ops o a = c := by unfold opVal; rw [if_pos hw, hr]
  refine ⟨fun w => ?_, by rw [e]; exact k⟩
  rw [if_pos hw, e]
  unfold Oper.wp
  rw [hr]
  exact ⟨put_defers _ _ _, rfl, c, rfl, rfl⟩
end

def fr (a0 : Act) (d : Nat → Option Tmp) (L : Nat → Bool) (vals : Nat → Value) : Nat → Act
  | 0 => a0
  | k + 1 => if L k then (fr a0 d L vals k).put (d k) (vals k) else fr a0 d L vals k
section
variable {a0 : Act} {d : Nat → Option Tmp} {L : Nat → Bool} {vals : Nat → Value}
end
def upd {α : Type} (f : Nat → α) (i : Nat) (v : α) : Nat → α := fun j => if j = i then v else f j
def directs (o : Oper) : List Nat := (o.after.toList.filter (Region.binds .any ·)).map (·.on)
def ancs (ops : List Oper) : List (List Nat) :=
  ops.foldl (fun acc o => acc ++ [((directs o).flatMap fun j => j :: acc.getD j []).eraseDups]) []
structure Fine (ops : List Oper) (K : List Nat) : Prop where
  len : K.length = ops.length
  three : ∀ i, K.getD i 2 < 3
  back : ∀ (i : Nat) (o : Oper), ops[i]? = some o → ∀ j ∈ directs o, j < i
  anc : ∀ (i : Nat) (o : Oper), ops[i]? = some o → ∀ j ∈ (ancs ops).getD i [], j ∈ directs o ∨ ∃ m ∈ directs o, m < i ∧ j ∈ (ancs ops).getD m []
  sel : ∀ (i : Nat) (o : Oper), ops[i]? = some o → ∀ cs c, o.op ≠ .select cs c
  nt : ∀ (i : Nat) (o : Oper), ops[i]? = some o → K.getD i 2 ≠ 2 → ∀ j ∈ (ancs ops).getD i [], K.getD j 2 ≠ 2
  self : ∀ (i : Nat) (o : Oper) t, ops[i]? = some o → K.getD i 2 ≠ 2 → o.dst = some t → t ∉ o.looksAt ops.toArray
  dist : ∀ (i j : Nat) (o o' : Oper) t, ops[i]? = some o → ops[j]? = some o' → K.getD i 2 ≠ 2 → o.dst = some t → o'.dst = some t → i = j
  lookT : ∀ (i j : Nat) (o o' : Oper) t, ops[i]? = some o → ops[j]? = some o' → K.getD i 2 ≠ 2 → K.getD j 2 = 2 → o'.dst = some t → t ∈ o.looksAt ops.toArray → i ∈ (ancs ops).getD j []
  lookN : ∀ (i j : Nat) (o o' : Oper) t, ops[i]? = some o → ops[j]? = some o' → K.getD i 2 ≠ 2 → K.getD j 2 ≠ 2 → o'.dst = some t → t ∈ o.looksAt ops.toArray → j < i ∧ j ∈ (ancs ops).getD i []
  tHead : ∀ (i j : Nat) (o : Oper), ops[i]? = some o → j < ops.length → K.getD i 2 = 2 → K.getD j 2 = 0 → j ∈ (ancs ops).getD i []
  tTail : ∀ (i j : Nat) (o : Oper), ops[i]? = some o → K.getD i 2 = 2 → K.getD j 2 = 2 → j < i → j ∈ (ancs ops).getD i []
  tFree : ∀ (i j : Nat) (o o' : Oper) t, ops[i]? = some o → ops[j]? = some o' → K.getD i 2 = 2 → K.getD j 2 = 1 → o'.dst = some t → t ∈ o.looksAt ops.toArray → j ∈ (ancs ops).getD i []
def ntOf (C : List Cls) (j : Nat) : Bool := match C[j]? with
  | some c => c.kind != 2
  | none => false
section
variable {P : Program} {ops : Array Oper} {w0 : World} {Q : Exit → Act → World → Prop}
theorem Chain.len : ∀ (C : List Cls) (rest : List Oper) (a : Act) (F : Given) (T : List Oper), Chain P ops w0 Q C rest a F T → (∀ S, .head S ∈ C → S.good)
  | [], _, _, _, _, _, c, h => by simp at h
  | .head S :: C, [], _, _, _, h, _, _ => h.elim
  | .free :: C, [], _, _, _, h, _, _ => h.elim
  | .tail :: C, [], _, _, _, h, _, _ => h.elim
  | .head S :: C, o :: rest, a, F, T, h, S', hc => by
    obtain ⟨hg, _, hk⟩ := h
    obtain ⟨v, hv⟩ := hg.1
    rcases List.mem_cons.1 hc with e | hc
    · cases e; exact hg
    · exact Chain.len C rest _ _ _ (hk v (0, 0) hv) S' hc
  | .free :: C, o :: rest, a, F, T, h, S', hc => by
    rcases List.mem_cons.1 hc with e | hc
    · cases e
    · exact Chain.len C rest _ _ _ (h.2 (0, 0)) S' hc
  | .tail :: C, o :: rest, a, F, T, h, S', hc => by
    rcases List.mem_cons.1 hc with e | hc
    · cases e
    · exact Chain.len C rest _ _ _ h S' hc
end

def comp (P : Program) (opl : List Oper) (C : List Cls) (a0 : Act) (keep : Nat → Bool) (base : Nat → Value) : Nat → Nat → Value
  | 0 => base
  | k + 1 => if keep k then comp P opl C a0 keep base k else upd (comp P opl C a0 keep base k) k (match opl[k]? with
    | some o => opVal P opl.toArray o (fr a0 (fun j => (opl[j]?).bind (·.dst)) (ntOf C) (comp P opl C a0 keep base k) k)
    | none => undef)
section
variable {P : Program} {opl : List Oper} {C : List Cls} {a0 : Act} {keep : Nat → Bool} {base : Nat → Value}
end

theorem cnt_upd (p q : Nat → Bool) (i : Nat) (hp : p i = true) (hq : q i = false) (h : ∀ j, j ≠ i → p j = q j) : ∀ n, i < n → (List.range n).countP p = (List.range n).countP q + 1 := by
  have same : ∀ n, n ≤ i → (List.range n).countP p = (List.range n).countP q := by
    intro n hn
    exact List.countP_congr fun j hj => by rw [h j (by have := List.mem_range.1 hj; omega)]
  intro n hn
  induction n with
  | zero => omega
  | succ n ih =>
    rw [List.range_succ, List.countP_append, List.countP_append]
    by_cases e : i = n
    · subst e; rw [same i (Nat.le_refl _)]; simp [hp, hq]
    · rw [ih (by omega), List.countP_singleton, List.countP_singleton, h n (fun e' => e e'.symm)]; omega

theorem listed_get {listed : Array Bool} {n j : Nat} (hs : listed.size = n) (hj : j < n) (b : Bool) : listed.getD j b = listed.getD j false := by
  simp [Array.getD, hs, hj]
theorem set_get {listed : Array Bool} {n i : Nat} (hs : listed.size = n) (hi : i < n) (j : Nat) : (listed.setIfInBounds i true).getD j false = upd (fun j => listed.getD j false) i true j := by
  unfold upd
  by_cases h : j = i
  · subst h; simp [Array.getD_eq_getD_getElem?, hs, hi]
  · simp [Array.getD_eq_getD_getElem?, h, Ne.symm h]

theorem ready_none {opl : List Oper} {listed : Array Bool} (hs : listed.size = opl.length) (hall : ∀ j, j < opl.length → listed.getD j false = true) : Region.ready .any opl.toArray listed = [] := by
  rw [List.eq_nil_iff_forall_not_mem]
  intro j hj
  obtain ⟨h0, o, ho, _⟩ := mem_ready.1 hj
  have hj' : j < opl.length := by simpa using (Array.getElem?_eq_some_iff.1 ho).1
  rw [listed_get hs hj', hall j hj'] at h0
  simp at h0

section
variable {K : List Nat} {C : List Cls} {opl : List Oper}
end
theorem upon_over {P : Program} {o : Oper} {a b : Act} {G K : Act → World → Prop} {Q Q' : Exit → Act → World → Prop} {r : Result Next} (hd : a.defers = b.defers) (h : o.upon P a G (Calm Q) r)
    (hk : ∀ D v w', G ({ a with defers := D }.put o.dst v) w' → K ({ b with defers := D }.put o.dst v) w') : o.upon P b K Q' r := by
  have ea : { a with defers := a.defers } = a := rfl
  have eb : { b with defers := a.defers } = b := by rw [hd]
  cases r with
  | halt h' w' => cases h' <;> first | exact h.elim | exact absurd h.1 (by simp)
  | ok n w' =>
    match n, h with
    | .value v, h => have := hk a.defers v w' h; rw [eb] at this; exact this
    | .skip, h => have := hk a.defers undef w' h; rw [eb] at this; exact this
    | .defer x, h => have := hk (x :: a.defers) undef w' h; rw [hd] at this; exact this
    | .enter f args, h =>
      refine Calls.mono h ?_
      intro e w'' he
      cases e with
      | returned v => have := hk a.defers v w'' he; rw [eb] at this; exact this
      | panicked c => exact absurd he.1 (by simp)
      | outgrown => obtain ⟨_, _, hf⟩ := he; exact absurd hf.1 (by simp)
    | .row r' args, h => exact Rows.mono h fun v w'' hv => by have := hk a.defers v w'' hv; rw [eb] at this; exact this
theorem asks_calm {Q : Exit → Act → World → Prop} (h : LetsOut (Calm Q)) : False := by
  obtain ⟨_, _, h⟩ := h; exact absurd h.1 (by simp)

section
variable {P : Program} {opl : List Oper} {K : List Nat} {C : List Cls} {Q : Exit → Act → World → Prop} {a0 : Act} {vals : Nat → Value}
end

section
variable {P : Program} {opl : List Oper} {K : List Nat} {C : List Cls} {Q : Exit → Act → World → Prop}
end

end Go.Proofs.Ytmljglphegeilaa

namespace Go.Proofs.Ytmljglphegeilaa
set_option linter.unusedVariables false
set_option linter.unusedSimpArgs false
set_option linter.unnecessarySimpa false
open Go.RowKit

section
variable {P : Program} {ops : Array Oper} {Q : Exit → Act → World → Prop} {o : Oper} {rest : List Oper} {a : Act} {w : World} {B : Nat} {own : List Res} {ro : List (World → Prop)}
theorem wpList_do (hw : Region.wanted o (yielded ops a.tmps) = true) (h : ∀ K : Act → World → Prop, (∀ a w, wpList P ops Q rest a w → K a w) → o.wp P a w K Q) : wpList P ops Q (o :: rest) a w :=
  wpList_step fun K hK => by rw [if_pos hw]; exact h K hK
theorem wpList_val (hw : Region.wanted o (yielded ops a.tmps) = true) {v : Value} {w' : World} (hr : (execOp a.eval o).run P w = .ok (.value v) w') (k : wpList P ops Q rest (a.put o.dst v) w') : wpList P ops Q (o :: rest) a w :=
  wpList_do hw fun K hK => by unfold Oper.wp; rw [hr]; exact hK _ _ k
theorem wpList_unit (hw : Region.wanted o (yielded ops a.tmps) = true) {w' : World} (hr : (execOp a.eval o).run P w = .ok .skip w') (k : wpList P ops Q rest (a.put o.dst undef) w') : wpList P ops Q (o :: rest) a w :=
  wpList_do hw fun K hK => by unfold Oper.wp; rw [hr]; exact hK _ _ k
theorem val_of {s : Sem Value} {o : Oper} {ρ : Operand → Value} {P : Program} {w w' : World} {v : Value} (h : execOp ρ o = (do pure (.value (← s)))) (hr : s.run P w = .ok v w') : (execOp ρ o).run P w = .ok (.value v) w' := by
  rw [h]; simp [Sem.run_bind, hr, Result.andThen]
theorem add_add (p : Addr) (m n : Nat) : (p.add m).add n = p.add (m + n) := by
  unfold Addr.add
  by_cases hm : m = 0 <;> by_cases hn : n = 0 <;> simp [hm, hn, Nat.add_assoc]
theorem add_at (b o n : Nat) : (⟨b, o, none⟩ : Addr).add n = ⟨b, o + n, none⟩ := by
  unfold Addr.add; split <;> simp_all

theorem run_load_one {T : TypeId} {d : TypeDesc} (hu : P.underlying T = some d) (hd : (match d with | .struct _ | .array _ _ => true | _ => false) = false) {p : Addr} {u : Value} (hc : w.cell? p = some u) : (Instr.loadAt T (.pointer (some p))).run P w = .ok u w := by
  have : (isAgg T).run P w = .ok false w := by
    unfold isAgg
    rw [Sem.run_bind, run_underlying hu]
    cases d <;> simp_all [Result.andThen]
  simp [Instr.loadAt, Instr.sureAddr, loadVar, this, hc, Result.andThen, Sem.run, load]
theorem run_load_agg {T : TypeId} {d : TypeDesc} (hu : P.underlying T = some d) (hd : (match d with | .struct _ | .array _ _ => true | _ => false) = true) {z : Option Value} {size bytes : Nat} (hI : (P.info? T).map (fun i => (i.zero, i.size, i.bytes)) = some (z, size, bytes)) {p : Addr} {us : List Value} (hl : us.length = size)
    (hc : ∀ j u, us[j]? = some u → w.cell? (p.add j) = some u) : (Instr.loadAt T (.pointer (some p))).run P w = .ok (.agg us.toArray) w := by
  have h1 : (isAgg T).run P w = .ok true w := by
    unfold isAgg
    rw [Sem.run_bind, run_underlying hu]
    cases d <;> simp_all [Result.andThen]
  cases hi : P.info? T with
  | none => rw [hi] at hI; simp at hI
  | some i =>
    rw [hi] at hI
    simp at hI
    have h2 : (sizeOf T).run P w = .ok size w := by simp [sizeOf, typeInfo, hi, hI.2.1]
    have h3 := run_loadCells_list (P := P) w p us hc
    rw [hl] at h3
    simp [Instr.loadAt, Instr.sureAddr, loadVar, h1, h2, h3, Result.andThen]
theorem elem_of {t e : TypeId} (ht : P.underlying t = some (.slice e)) : P.elem t = e := by simp [Program.elem, ht]
theorem run_size {e : TypeId} {z : Option Value} {size bytes : Nat} (hI : (P.info? e).map (fun i => (i.zero, i.size, i.bytes)) = some (z, size, bytes)) : (sizeOf e).run P w = .ok size w := by
  cases hin : P.info? e with
  | none => rw [hin] at hI; simp at hI
  | some inf =>
    rw [hin] at hI
    simp at hI
    simp [sizeOf, typeInfo, hin, hI.2.1]
theorem Rs.elem {size : Nat} {sa : Option Addr} {n c : Nat} {α : Type} {enc : α → List Value} {l : List α} (h : Rs w size sa n c (l.flatMap enc)) (he : ∀ x ∈ l, (enc x).length = size) {i : Nat} {x : α} (hi : l[i]? = some x) :
    ∀ j u, (enc x)[j]? = some u → w.cell? ((adr sa).add (i * size + j)) = some u := by
  intro j u hj
  refine h.cells _ u ?_
  have key : ∀ (l : List α) (i : Nat), (∀ x ∈ l, (enc x).length = size) → l[i]? = some x → (l.flatMap enc)[i * size + j]? = some u := by
    intro l
    induction l with
    | nil => intro i _ h; simp at h
    | cons y l ih =>
      intro i he hi
      have hy := he y (List.mem_cons_self ..)
      rw [List.flatMap_cons]
      cases i with
      | zero =>
        simp at hi; subst hi
        rw [Nat.zero_mul, Nat.zero_add, List.getElem?_append_left (List.getElem?_eq_some_iff.1 hj).1]
        exact hj
      | succ i =>
        rw [List.getElem?_append_right (by rw [hy, Nat.succ_mul]; omega), hy, show (i + 1) * size + j - size = i * size + j by rw [Nat.succ_mul]; omega]
        exact ih i (fun x hx => he x (List.mem_cons_of_mem _ hx)) (by simpa using hi)
  exact key l i he hi

theorem rs_sliced {size : Nat} {sa : Option Addr} {n c : Nat} {xs : List Value} (hr : Rs w size sa n c xs) (l h : Nat) (h1 : l ≤ h) (h2 : h ≤ n) :
    Rs w size (if c = l then sa else sa.map (·.add (l * size))) (h - l) (c - l) ((xs.drop (l * size)).take ((h - l) * size)) := by
  have hc := hr.cap
  have hlen := hr.len
  have hm := hr.most
  by_cases e : c = l
  · rw [if_pos e]
    have e0 : h - l = 0 := by omega
    rw [e0]
    refine ⟨by omega, by omega, fun hn => by have := hr.none hn; omega, by simp, fun j u hj => by simp at hj⟩
  · rw [if_neg e]
    have hle : (h - l) * size ≤ (n - l) * size := Nat.mul_le_mul_right _ (by omega)
    have hsub : (n - l) * size = n * size - l * size := Nat.sub_mul ..
    have hln : l * size ≤ n * size := Nat.mul_le_mul_right _ (by omega)
    cases sa with
    | none => have := hr.none rfl; omega
    | some b =>
      refine ⟨by omega, by omega, fun hn => by simp at hn, by simp only [List.length_take, List.length_drop]; omega, fun j u hj => ?_⟩
      rw [List.getElem?_take] at hj
      split at hj
      · rw [List.getElem?_drop] at hj
        have := hr.cells _ u hj
        show w.cell? ((b.add (l * size)).add j) = some u
        rw [add_add]; exact this
      · cases hj
theorem made_flat {α : Type} {enc : α → List Value} {size : Nat} {z : Array Value} {x : α} (hz : z.toList = enc x) (hs : (enc x).length = size) (n : Nat) : (madeCells z (n * size)).toList = (List.replicate n x).flatMap enc := by
  have hzs : z.size = size := by rw [← hs, ← hz]; simp
  by_cases h0 : size = 0
  · have : enc x = [] := List.eq_nil_of_length_eq_zero (by omega)
    subst h0
    have : (List.replicate n x).flatMap enc = [] := by simp [this]
    rw [this]; simp [madeCells]
  have key : ∀ m, (List.range (m * size)).map (fun i => z[i % z.size]!) = (List.replicate m x).flatMap enc := by
    intro m
    induction m with
    | zero => simp
    | succ m ih =>
      rw [List.replicate_succ', List.flatMap_append, ← ih, Nat.succ_mul, List.range_add, List.map_append, List.map_map]
      congr 1
      rw [List.flatMap_cons, List.flatMap_nil, List.append_nil, ← hz]
      apply List.ext_getElem
      · simp [hzs]
      · intro i h1 h2
        have hi : i < size := by simpa using h1
        simp only [List.getElem_map, List.getElem_range, Function.comp]
        rw [hzs, Nat.mul_comm m size, Nat.mul_add_mod, Nat.mod_eq_of_lt hi, getElem!_pos z i (by omega)]
        simp
  rw [madeCells]
  simp only [Array.toList_map, Array.toList_range]
  exact key n
theorem places_run (w : World) : ∀ (fs : List Field) (ps : List (Nat × Nat)), fs.map (fun f => (f.offset, (P.info? f.type).map (·.size))) = ps.map (fun x => (x.1, some x.2)) →
    (fs.mapM (fun f => (do pure (f.offset, ← sizeOf f.type) : Sem (Nat × Nat)))).run P w = .ok ps w
  | [], [], _ => rfl
  | [], _ :: _, h => by simp at h
  | _ :: _, [], h => by simp at h
  | f :: fs, x :: ps, h => by
    simp only [List.map_cons, List.cons.injEq, Prod.mk.injEq] at h
    obtain ⟨⟨h1, h2⟩, h3⟩ := h
    have ih := places_run w fs ps h3
    have hs : (sizeOf f.type).run P w = .ok x.2 w := by
      cases hi : P.info? f.type with
      | none => rw [hi] at h2; simp at h2
      | some i => rw [hi] at h2; simp at h2; simp [sizeOf, typeInfo, hi, h2]
    rw [List.mapM_cons]
    simp only [Sem.run_bind, hs, Result.andThen_ok, Sem.run_pure, ih, h1]
def fillL (places : List (Nat × Nat)) : List Value → List (Nat × Value) → Option (List Value)
  | cells, [] => some cells
  | cells, (i, v) :: rest =>
    match places[i]? with
    | none => none
    | some (off, size) => if v.cells.toList.length = size ∧ off + v.cells.toList.length ≤ cells.length then fillL places (cells.take off ++ v.cells.toList ++ cells.drop (off + v.cells.toList.length)) rest else none
theorem fold_set : ∀ (l : List Value) (k off : Nat) (cells : Array Value), off + k + l.length ≤ cells.size →
    ((l.zipIdx k).foldl (fun cs (x : Value × Nat) => cs.setIfInBounds (off + x.2) x.1) cells).toList = cells.toList.take (off + k) ++ l ++ cells.toList.drop (off + k + l.length)
  | [], k, off, cells, h => by simp
  | v :: l, k, off, cells, h => by
    simp only [List.length_cons] at h
    have ih := fold_set l (k + 1) off (cells.setIfInBounds (off + k) v) (by simp; omega)
    rw [List.zipIdx_cons, List.foldl_cons, ih]
    simp only [Array.toList_setIfInBounds, List.length_cons]
    have hlt : off + k < cells.toList.length := by simp; omega
    rw [List.take_set, List.drop_set_of_lt (by omega)]
    have e1 : (cells.toList.take (off + (k + 1))).set (off + k) v = cells.toList.take (off + k) ++ [v] := by
      rw [show off + (k + 1) = off + k + 1 by omega, List.take_succ_eq_append_getElem hlt, List.set_append_right _ _ (by simp; omega)]
      simp [Nat.min_eq_left (Nat.le_of_lt (by simpa using hlt))]
    rw [e1, show off + (k + 1) + l.length = off + k + (l.length + 1) by omega]
    simp
theorem fill_of {places : List (Nat × Nat)} : ∀ (ps : List (Nat × Value)) (cells cs : List Value), fillL places cells ps = some cs → Instr.fill (places.toArray[·]?) cells.toArray ps = some cs.toArray
  | [], cells, cs, h => by simp [fillL] at h; subst h; rfl
  | (i, v) :: ps, cells, cs, h => by
    unfold fillL at h
    unfold Instr.fill
    cases hp : places[i]? with
    | none => rw [hp] at h; cases h
    | some x =>
      obtain ⟨off, size⟩ := x
      rw [hp] at h
      simp only at h
      split at h
      · rename_i hc
        have hc1 : v.cells.size = size := by simpa using hc.1
        have hc2 : off + v.cells.size ≤ cells.length := by simpa using hc.2
        simp only [List.getElem?_toArray, hp]
        rw [if_neg (by simp [hc1]; omega)]
        have ih := fill_of ps _ cs h
        have hf := fold_set v.cells.toList 0 off cells.toArray (by simp; omega)
        have e : v.cells.zipIdx.foldl (fun cs (x : Value × Nat) => cs.setIfInBounds (off + x.2) x.1) cells.toArray = (cells.take off ++ v.cells.toList ++ cells.drop (off + v.cells.toList.length)).toArray := by
          apply Array.toList_inj.1
          rw [← Array.foldl_toList, Array.toList_zipIdx]
          simpa using hf
        rw [← ih]
        simp only [List.getElem?_toArray]
        exact congrArg (fun c => Instr.fill (places[·]?) c ps) e
      · cases h
theorem run_fun {f : FuncId} {fn : Func} (hf : P.funcs[f]? = some fn) (hn : (fn.name == "runtime.NumGoroutine") = false) (hb : fn.body.isNone = false) {args : Array Operand} {tys : Array TypeId}
    (ho : o.op = .call { callee := .value (.func f), args := args, argTypes := tys }) (vs : List Value) (hv : args.toList.map a.eval = vs) (w : World) : (execOp a.eval o).run P w = .ok (.enter f vs.toArray) w := by
  have e : Array.map a.eval args = vs.toArray := by rw [← hv]; apply Array.toList_inj.1; simp
  unfold execOp
  simp only [ho, resolve, Act.eval, Deferred.ofValue, Sem.run_bind, Sem.run_pure, Result.andThen_ok, invoke, callFunc]
  have hn' : ¬ fn.name = "runtime.NumGoroutine" := by simpa using hn
  have hb' : ¬ fn.body = none := fun h => by rw [h] at hb; simp at hb
  simp [hf, hn', hb', Sem.run, e]
structure Shp (α : Type) where
  val : α → Value
  res : α → List Res
  ro : α → List (World → Prop) := fun _ => []
theorem wp_of_list (hw : Region.wanted o (yielded ops a.tmps) = true) {K : Act → World → Prop} (h : wpList P ops (Calm fun _ a w => K a w) [o] a w) : o.wp P a w K (fun _ _ _ => False) := by
  unfold wpList at h
  rw [if_pos hw] at h
  rcases h with h | ⟨_, h⟩
  · unfold Oper.wp at h ⊢
    have := upon_over (P := P) (o := o) (a := a) (b := a) (G := fun a w => wpList P ops (Calm fun _ a w => K a w) [] a w) (K := K) (Q := fun _ a w => K a w) (Q' := fun _ _ _ => False) rfl h (fun D v w' hG => by
      unfold wpList at hG; exact hG.2)
    exact this
  · exact (asks_calm h).elim
variable {w0 : World} {Ss : List Cls} {F : Given} {T : List Oper}
theorem Chain.one (c : Value) (hw : Region.wanted o (yielded ops a.tmps) = true)
    (h : ∀ w, Below w0.heap.size w0 w → wpList P ops (Calm fun _ a' w' => a'.defers = a.defers ∧ Below w.heap.size w w' ∧ ∃ v, a' = a.put o.dst v ∧ v = c) [o] a w)
    (k : ∀ g, Chain P ops w0 Q Ss rest (a.put o.dst c) ((o.dst, c, g, .val c) :: F) T) : Chain P ops w0 Q (.head (.val c) :: Ss) (o :: rest) a F T :=
  Chain.pos c hw (fun w hb _ => wp_of_list hw (h w hb)) k
def plainOp : Op → Bool
  | .move _ | .pick _ _ _ | .build _ _ | .binOp _ _ _ _ _ | .unOp _ _ _ | .convert _ _ _ | .slice _ _ _ _ _ | .fieldAddr _ _ _ | .field _ _ _ | .indexAddr _ _ _ | .index _ _ _ | .extract _ _ | .makeInterface _ _ | .makeFunc _ _ _ => true
  | _ => false
theorem plain_run {o : Oper} (h : plainOp o.op = true) (ρ : Operand → Value) (P : Program) (w : World) : (∃ v w', (execOp ρ o).run P w = .ok (.value v) w') ∨ ∃ e w', (execOp ρ o).run P w = .halt e w' := by
  have key : ∀ s : Sem Value, (∃ v w', (do pure (Next.value (← s)) : Sem Next).run P w = .ok (.value v) w') ∨ ∃ e w', (do pure (Next.value (← s)) : Sem Next).run P w = .halt e w' := by
    intro s
    simp only [Sem.run_bind]
    cases s.run P w with
    | ok v w' => exact .inl ⟨v, w', by simp [Result.andThen]⟩
    | halt e w' => exact .inr ⟨e, w', by simp [Result.andThen]⟩
  unfold execOp
  cases ho : o.op with
  | pick c x y =>
    simp only [Sem.run_bind]
    cases (asBool (ρ c)).run P w with
    | ok v w' => exact .inl ⟨_, w', by simp [Result.andThen]; rfl⟩
    | halt e w' => exact .inr ⟨e, w', by simp [Result.andThen]⟩
  | move x => exact .inl ⟨_, _, rfl⟩
  | build | binOp | unOp | convert | slice | fieldAddr | field | indexAddr | index | extract | makeInterface | makeFunc => exact key _
  | _ => rw [ho] at h; exact absurd h (by simp [plainOp])
theorem put_inj {a : Act} {t : Nat} {v c : Value} (ht : t < a.tmps.size) (h : a.put (some t) v = a.put (some t) c) : v = c := by
  have := congrArg (fun x : Act => x.tmps[t]?) h
  simp only [put_get, if_true, ht] at this
  exact Option.some.inj this
theorem Chain.any (c : Value) (hw : Region.wanted o (yielded ops a.tmps) = true) (hp : plainOp o.op = true) {t : Nat} (hd : o.dst = some t) (ht : decide (t < a.tmps.size) = true)
    (h : ∀ w, wpList P ops (Calm fun _ a' w' => a'.defers = a.defers ∧ w' = w ∧ ∃ v, a' = a.put o.dst v ∧ v = c) [o] a w)
    (k : ∀ g, Chain P ops w0 Q Ss rest (a.put o.dst c) ((o.dst, c, g, .val c) :: F) T) : Chain P ops w0 Q (.free :: Ss) (o :: rest) a F T := by
  refine Chain.loose c hw (fun w => ?_) k
  have hh := wp_of_list hw (h w)
  unfold Oper.wp at hh
  rcases plain_run hp a.eval P w with ⟨v, w', e⟩ | ⟨x, w', e⟩
  · rw [e] at hh ⊢
    obtain ⟨_, rfl, v', h1, rfl⟩ := hh
    rw [hd] at h1
    rw [put_inj (by simpa using ht) h1]
  · rw [e] at hh
    cases x <;> exact hh.elim
def Vals {α : Type} (S : Shp α) (v : Value) : Prop := ∃ x, v = S.val x
def Owns {α : Type} (S : Shp α) (v : Value) (lo hi : Nat) (w : World) : Prop := ∃ x, v = S.val x ∧ Hp lo hi w (S.res x) (S.ro x)
def Shp.spec {α : Type} (S : Shp α) : Spec := .any (Vals S) (Owns S)
theorem Chain.fresh {α : Type} {S : Shp α} (hw : Region.wanted o (yielded ops a.tmps) = true)
    (h : ∀ w, Below w0.heap.size w0 w → (∀ x ∈ F, (∃ t, x.1 = Option.some t ∧ t ∈ o.looksAt ops) → x.2.2.2.fact x.2.1 x.2.2.1 w) →
      wpList P ops (Calm fun _ a' w' => a'.defers = a.defers ∧ ∃ x, a' = a.put o.dst (S.val x) ∧ Below w.heap.size w w' ∧ Hp w.heap.size w'.heap.size w' (S.res x) (S.ro x)) [o] a w) (hne : Nonempty α)
    (k : ∀ x g, Chain P ops w0 Q Ss rest (a.put o.dst (S.val x)) ((o.dst, S.val x, g, S.spec) :: F) T) : Chain P ops w0 Q (.head S.spec :: Ss) (o :: rest) a F T := by
  refine Chain.given (Vals S) (Owns S) (by obtain ⟨x⟩ := hne; exact ⟨S.val x, x, rfl⟩) (fun v lo hi w w' hb h => ?_) hw (fun w hb hx => ?_) (fun v g hv => ?_)
  · obtain ⟨x, e, hp⟩ := h
    exact ⟨x, e, hp.later hb⟩
  · refine Oper.wp_mono ?_ (wp_of_list hw (h w hb hx))
    rintro a' w' ⟨hd, x, ha, hb', hp⟩
    exact ⟨hd, hb', S.val x, ha, ⟨x, rfl⟩, x, rfl, hp⟩
  · obtain ⟨x, rfl⟩ := hv
    exact k x g
def resOf (tmps : Array Value) (r : ResultVar) : Sem Value := match r with
  | .tmp t => pure (tmps.getD t undef)
  | .cell a t => do loadVar t (← asAddr (tmps.getD a undef))
theorem resOf_tmp {tmps : Array Value} (t : Nat) {v : Value} (h : tmps.getD t undef = v) : (resOf tmps (.tmp t)).run P w = .ok v w := by simp [resOf, h]
theorem resOf_cell {tmps : Array Value} (x : Nat) {T : TypeId} {p : Addr} {v : Value} (h : tmps.getD x undef = .pointer (some p)) (hv : (Instr.loadAt T (.pointer (some p))).run P w = .ok v w) : (resOf tmps (.cell x T)).run P w = .ok v w := by
  have h2 : (loadVar T p).run P w = (Instr.loadAt T (.pointer (some p))).run P w := by simp [Instr.loadAt, Instr.sureAddr]
  simp [resOf, h, asAddr, h2, hv, Result.andThen]
theorem results_eq (fn : Func) (tmps : Array Value) : results fn tmps = (do let vs ← fn.results.mapM (resOf tmps); pure (if h : vs.size = 1 then vs[0] else .tuple vs)) := rfl
section
variable {fn : Func} {R : Ending → World → Prop} {r1 r2 r3 r4 : ResultVar} {v1 v2 v3 v4 : Value}
end
end
end Go.Proofs.Ytmljglphegeilaa


namespace Go.Proofs.Ytmljglphegeilaa
set_option linter.unusedVariables false
set_option linter.unusedSimpArgs false
set_option linter.unnecessarySimpa false
open Go.RowKit

abbrev QS := Exit → (Nat → AV) → List Ob → Prop
def ofCell (v : Value) : AV := match v with
  | .slice a n c => bif a.isNone && (Nat.beq n 0 && Nat.beq c 0) then .nl else .t (.v v)
  | v => .t (.v v)
def ofConst (v : Value) : AV := match v with
  | .agg cs => bif cs.toList.all (·.oneCell') then .agg (cs.toList.map ofCell) else .any
  | .tuple vs => bif vs.toList.isEmpty then .tup [] else .any
  | v => ofCell v
def pu (T : Nat → AV) (d : Nat) (x : AV) : Nat → AV := fun t => bif Nat.beq t d then x else T t
def evA (n : Fr) (T : Nat → AV) : Operand → AV
  | .tmp t => bif Nat.blt t n.n then T t else .any
  | .const v => ofConst v
  | .global _ => .any
  | .func f => .fn (.func f) [] []
def lift (e : Env) (n : Fr) (Q : QS) : Exit → Act → World → Prop := fun ex a w => ∃ T heap, Q ex T heap ∧ Rep e ⟨n, T, heap⟩ a w
def AL (P : Program) (ops : Array Oper) (Q : QS) (rest : List Oper) (n : Fr) (T : Nat → AV) (heap : List Ob) : Prop :=
  ∀ e a w, Rep e ⟨n, T, heap⟩ a w → wpList P ops (lift e n Q) rest a w

theorem val_ofCell {Kn : Nat → Nat → Prop} {ρ : Rho} {w : World} {Z Y : Nat → Prop} {v : Value} (h : v.oneCell' = true) : Val Kn ρ w Z Y (ofCell v) v := by
  cases v with
  | slice a n c =>
    simp only [ofCell]
    cases hb : (a.isNone && (Nat.beq n 0 && Nat.beq c 0)) with
    | true =>
      simp at hb
      obtain ⟨rfl, rfl, rfl⟩ := hb
      exact .nl _
    | false => exact .t (.v h)
  | _ => exact .t (.v h)
theorem val_ofConst {Kn : Nat → Nat → Prop} {ρ : Rho} {w : World} {Z Y : Nat → Prop} (v : Value) : Val Kn ρ w Z Y (ofConst v) v := by
  cases v with
  | agg cs =>
    simp only [ofConst]
    cases hb : cs.toList.all (·.oneCell') with
    | true =>
      have h' : ∀ u ∈ cs.toList, u.oneCell' = true := List.all_eq_true.1 hb
      have := Val.agg (Kn := Kn) (ρ := ρ) (w := w) (Z := Z) (Y := Y) (l := cs.toList.map ofCell) (us := cs.toList) (by simp) h' (fun j x u hj hu => by
        rw [List.getElem?_map, hu] at hj
        cases hj
        exact val_ofCell (h' u (List.mem_of_getElem? hu)))
      simpa using this
    | false => exact .any _
  | tuple vs =>
    simp only [ofConst]
    cases hb : vs.toList.isEmpty with
    | true =>
      have : vs = #[] := by simpa using hb
      subst this
      exact .tup (us := []) rfl (fun j x u hj => by simp at hj)
    | false => exact .any _
  | bool b => exact val_ofCell (v := .bool b) rfl
  | int k i => exact val_ofCell (v := .int k i) rfl
  | float k b => exact val_ofCell (v := .float k b) rfl
  | complex k b c => exact val_ofCell (v := .complex k b c) rfl
  | string b => exact val_ofCell (v := .string b) rfl
  | pointer b => exact val_ofCell (v := .pointer b) rfl
  | slice b c d => exact val_ofCell (v := .slice b c d) rfl
  | map b => exact val_ofCell (v := .map b) rfl
  | chan b => exact val_ofCell (v := .chan b) rfl
  | func b c d => exact val_ofCell (v := .func b c d) rfl
  | nilFunc => exact val_ofCell (v := .nilFunc) rfl
  | iface b c => exact val_ofCell (v := .iface b c) rfl
  | nilIface => exact val_ofCell (v := .nilIface) rfl
section
variable {P : Program} {ops : Array Oper} {Q : QS} {rest : List Oper} {o : Oper} {n : Fr} {T : Nat → AV} {heap : List Ob} {e : Env} {a : Act} {w w' : World} {ρ ρ' : Rho} {Z Z' Y Y' : Nat → Prop}
theorem Rp.eval (h : Rp e ⟨n, T, heap⟩ a w ρ Z Y) (x : Operand) : Val (Kn heap) ρ w Z Y (evA n T x) (a.eval x) := by
  cases x with
  | tmp t =>
    have hn : a.tmps.size = n.n := h.n
    by_cases ht : t < n.n
    · have h1 : Nat.blt t n.n = true := Nat.ble_eq_true_of_le ht
      have h2 : a.tmps[t]? = some (a.tmps[t]'(by rw [hn]; exact ht)) := Array.getElem?_eq_getElem (by rw [hn]; exact ht)
      have := h.at_ t _ h2
      simp only [evA, h1, cond_true, Act.eval, Array.getD_eq_getD_getElem?, h2, Option.getD_some]
      exact this
    · have h1 : Nat.blt t n.n = false := by
        cases hb : Nat.blt t n.n
        · rfl
        · exact absurd (Nat.le_of_ble_eq_true hb) ht
      simp only [evA, h1, cond_false]
      exact .any _
  | const v => exact val_ofConst v
  | global g => exact .any _
  | func f => exact .fn (us := []) (vs := []) rfl rfl (fun j x u hj => by simp at hj) (fun j x u hj => by simp at hj)
theorem Rp.put (h : Rp e ⟨n, T, heap⟩ a w ρ Z Y) (d : Nat) {x : AV} {v : Value} (hv : Val (Kn heap) ρ w Z Y x v) : Rp e ⟨n, pu T d x, heap⟩ (a.put (some d) v) w ρ Z Y := by
  refine ⟨h.ok, h.defers, ?_, h.hl, fun t u ht => ?_⟩
  · have := h.n
    simpa [Act.put] using this
  · rw [put_get] at ht
    by_cases e : d = t
    · subst e
      rw [if_pos rfl] at ht
      split at ht
      · cases ht
        simp only [pu, Nat.beq_refl, cond_true]
        exact hv
      · cases ht
    · rw [if_neg (by simpa using e)] at ht
      have h1 : Nat.beq t d = false := by
        cases hb : Nat.beq t d
        · rfl
        · exact absurd (Nat.eq_of_beq_eq_true hb).symm e
      simp only [pu, h1, cond_false]
      exact h.at_ t u ht
theorem Rp.move {heap' : List Ob} (h : Rp e ⟨n, T, heap⟩ a w ρ Z Y) (hok : Ok e heap' w' ρ' Z' Y') (hm : ∀ x v, Val (Kn heap) ρ w Z Y x v → Val (Kn heap') ρ' w' Z' Y' x v) : Rp e ⟨n, T, heap'⟩ a w' ρ' Z' Y' :=
  ⟨hok, h.defers, h.n, h.hl, fun t v ht => hm _ _ (h.at_ t v ht)⟩

structure Same3 (w w' : World) : Prop where
  os : w'.os = w.os
  tape : w'.tape = w.tape
  output : w'.output = w.output
theorem Ok.mono {heap' : List Ob} (h : Ok e heap w ρ Z Y) (hr : HRep heap' w' ρ' Z' Y') (hρ : ∀ j k, Kn heap j k → Kn heap' j k ∧ ρ' j k = ρ j k) (h3 : Same3 w w') (hs : w.heap.size ≤ w'.heap.size)
    (hdom : ∀ (i : Nat) (o : Ob) (b : Nat), heap'[i]? = some o → o.blk ρ' i = some b → e.D b) (hz : ∀ b, Z b → Z' b) (hy : ∀ b, Y b → Y' b) (hzz : ∀ b, Z' b → Z b ∨ e.D b) (hk : ∀ b, b < w.heap.size → ¬ e.D b → w'.heap[b]? = w.heap[b]?) : Ok e heap' w' ρ' Z' Y' := by
  refine ⟨hr, hdom, fun b hb => ?_, fun b hb => hz b (h.z0 b hb), fun b hb => hy b (h.y0 b hb), fun i k hk' => ?_, by rw [h3.os, h.os], by rw [h3.tape, h.tape], by rw [h3.output, h.output], Nat.le_trans h.size hs, fun b hb => ?_⟩
  · rcases hzz b hb with h1 | h1
    · exact h.zone b h1
    · exact .inr h1
  · obtain ⟨h1, h2⟩ := h.rho i k hk'
    obtain ⟨h3, h4⟩ := hρ i k h1
    exact ⟨h3, h4.trans h2⟩
  · have hlt : b < w.heap.size := by
      have := h.size
      rcases Nat.lt_or_ge b e.W.heap.size with h1 | h1
      · omega
      · exact absurd (e.big b h1) hb
    rw [hk b hlt hb, h.keep b hb]
theorem Ok.turn (h : Ok e heap w ρ Z Y) {i : Nat} {o o' : Ob} (hi : heap[i]? = some o) (hv : o.lim ≤ o'.lim) (hρ : ∀ j k, Kn heap j k → ρ' j k = ρ j k) (h3 : Same3 w w') (hs : w.heap.size ≤ w'.heap.size)
    (hk : ∀ b, b < w.heap.size → o.blk ρ i ≠ some b → w'.heap[b]? = w.heap[b]?) (hh : o'.holds (Val (Kn (heap.set i o')) ρ' w' Z Y) ρ' w' Z i)
    (hb : ∀ b, o'.blk ρ' i = some b → o.blk ρ i = some b ∨ (w.heap.size ≤ b ∧ b < w'.heap.size)) : Ok e (heap.set i o') w' ρ' Z Y := by
  refine h.mono (h.rep.turn hi hv hρ hs hk hh hb) (fun j k hj => ⟨hj.set hi hv, hρ j k hj⟩) h3 hs (fun j p b hj hp => ?_) (fun _ h => h) (fun _ h => h) (fun b hb => .inl hb) (fun b hlt hD => hk b hlt fun hb' => hD (h.dom i o b hi hb'))
  rw [List.getElem?_set] at hj
  split at hj
  · rename_i he
    subst he
    split at hj <;> cases hj
    rcases hb b hp with h1 | h1
    · exact h.dom i o b hi h1
    · exact e.big b (Nat.le_trans h.size h1.1)
  · rw [Ob.blk_mono fun k hk' => hρ j k ⟨p, hj, hk'⟩] at hp
    exact h.dom j p b hj hp
theorem Ok.push (h : Ok e heap w ρ Z Y) {N : Nat} {L heap' : List Ob} (hat : AtL heap N L heap') (hρ : ∀ j k, Kn heap j k → ρ' j k = ρ j k) (h3 : Same3 w w') (hs : w.heap.size ≤ w'.heap.size) (hk : ∀ b, b < w.heap.size → w'.heap[b]? = w.heap[b]?)
    (hz : ∀ b, Z b → Z' b) (hy : ∀ b, Y b → Y' b) (hzy : ∀ b, Z' b → Y' b) (hyn : ∀ b, Y' b → Y b ∨ (w.heap.size ≤ b ∧ b < w'.heap.size)) (hzn : ∀ b, Z' b → Z b ∨ (w.heap.size ≤ b ∧ b < w'.heap.size))
    (hL : ∀ (q : Nat) (o : Ob), L[q]? = some o → o.holds (Val (Kn heap') ρ' w' Z' Y') ρ' w' Z' (N + q)) (ha : ∀ (q r : Nat) (o o' : Ob) (b : Nat), L[q]? = some o → L[r]? = some o' → o.blk ρ' (N + q) = some b → o'.blk ρ' (N + r) = some b → q = r)
    (ho : ∀ (q : Nat) (o : Ob) (b : Nat), L[q]? = some o → o.blk ρ' (N + q) = some b → w.heap.size ≤ b ∧ b < w'.heap.size ∧ ¬ Y' b) : Ok e heap' w' ρ' Z' Y' := by
  refine h.mono (h.rep.push hat hρ hs hk hz hy hzy hyn hL ha ho) (fun j k hj => ⟨(hat.kn hj).1, hρ j k hj⟩) h3 hs (fun j p b hj hp => ?_) hz hy (fun b hb => ?_) (fun b hlt _ => hk b hlt)
  · rcases hat.part hj with ⟨hj, _⟩ | ⟨q, rfl, hq⟩
    · rw [Ob.blk_mono fun k hk' => hρ j k ⟨p, hj, hk'⟩] at hp
      exact h.dom j p b hj hp
    · exact e.big b (Nat.le_trans h.size (ho q p b hq hp).1)
  · rcases hzn b hb with h1 | h1
    · exact .inl h1
    · exact .inr (e.big b (Nat.le_trans h.size h1.1))
theorem Ok.push1 (h : Ok e heap w ρ Z Y) {o : Ob} {N : Nat} {heap' : List Ob} (hat : AtL heap N [o] heap') {pl : Pl} (h3 : Same3 w w') (hs : w.heap.size ≤ w'.heap.size) (hk : ∀ b, b < w.heap.size → w'.heap[b]? = w.heap[b]?)
    (hL : ∀ ρ' : Rho, (∀ k, ρ' N k = pl) → (∀ j k, Kn heap j k → ρ' j k = ρ j k) → o.holds (Val (Kn heap') ρ' w' Z Y) ρ' w' Z N)
    (ho : ∀ b, pl.a.map (·.block) = some b → o.blk (fun _ _ => pl) 0 = some b → w.heap.size ≤ b ∧ b < w'.heap.size) :
    ∃ ρ' : Rho, Ok e heap' w' ρ' Z Y ∧ (∀ x v, Val (Kn heap) ρ w Z Y x v → Val (Kn heap') ρ' w' Z Y x v) ∧ (∀ k, ρ' N k = pl) ∧ ∀ j k, Kn heap j k → ρ' j k = ρ j k := by
  let ρ' : Rho := fun j k => if j = N then pl else ρ j k
  have hρ : ∀ j k, Kn heap j k → ρ' j k = ρ j k := fun j k hj => if_neg ((hat.kn hj).2 0 (by simp))
  have hN : ∀ k, ρ' N k = pl := fun k => if_pos rfl
  have hy' : ∀ b, Y b → Y b ∧ w'.heap[b]? = w.heap[b]? := fun b hb => ⟨hb, hk b (h.rep.ylt b hb)⟩
  refine ⟨ρ', h.push hat hρ h3 hs hk (fun _ h => h) (fun _ h => h) h.rep.zy (fun b hb => .inl hb) (fun b hb => .inl hb) (fun q p hq => ?_) (fun q r p p' b hq hr _ _ => ?_) (fun q p b hq hp => ?_), fun x v hv => h.rep.val (fun j k hj => ⟨(hat.kn hj).1, hρ j k hj⟩) (fun _ h => h) hy' hv, hN, hρ⟩
  · cases q with
    | zero => simp at hq; subst hq; exact hL ρ' hN hρ
    | succ q => simp at hq
  · have := get_lt hq
    have := get_lt hr
    simp at *
    omega
  · cases q with
    | zero =>
      simp at hq; subst hq
      have e1 : o.blk ρ' (N + 0) = o.blk (fun _ _ => pl) 0 := Ob.blk_mono fun k _ => hN k
      rw [e1] at hp
      have e2 : pl.a.map (·.block) = some b := by
        cases o with
        | box => exact hp
        | row => simp only [Ob.blk] at hp; split at hp; cases hp; exact hp
        | gone => cases hp
        | hole => cases hp
        | mp => exact hp
        | ra => simp only [Ob.blk] at hp; split at hp; cases hp; exact hp
      have := ho b e2 hp
      exact ⟨this.1, this.2, fun hy => by have := h.rep.ylt b hy; omega⟩
    | succ q => simp at hq

def wantedA (n : Fr) (T : Nat → AV) (ops : Array Oper) (o : Oper) : Bool :=
  match o.guard with
  | none => true
  | some (j, want) => match (ops[j]?).bind (·.dst) with
    | some d => match evA n T (.tmp d) with
      | .t (.v (.bool b)) => b == want
      | _ => false
    | none => false
def skipsA (n : Fr) (T : Nat → AV) (ops : Array Oper) (o : Oper) : Bool :=
  match o.guard with
  | none => false
  | some (j, want) => match (ops[j]?).bind (·.dst) with
    | some d => match evA n T (.tmp d) with
      | .t (.v (.bool b)) => !(b == want)
      | .tup [] => true
      | _ => false
    | none => false
theorem Rp.wanted (h : Rp e ⟨n, T, heap⟩ a w ρ Z Y) (hw : wantedA n T ops o = true) : Region.wanted o (yielded ops a.tmps) = true := by
  unfold wantedA at hw
  unfold Region.wanted
  split at hw
  · rename_i hg; rw [hg]
  · rename_i j want hg
    rw [hg]
    split at hw
    · rename_i d hd
      have hv := h.eval (.tmp d)
      split at hw
      · rename_i b hb
        rw [hb] at hv
        simp only [yielded, hd, Option.bind_some]
        cases ht : a.tmps[d]? with
        | none => simp [Act.eval, Array.getD_eq_getD_getElem?, ht, undef] at hv; cases hv; rename_i h; cases h
        | some u =>
          simp only [Act.eval, Array.getD_eq_getD_getElem?, ht, Option.getD_some] at hv
          cases hv; rename_i h; cases h
          have : b = want := by simpa using hw
          subst this
          simp
      · cases hw
    · cases hw
theorem Rp.skips (h : Rp e ⟨n, T, heap⟩ a w ρ Z Y) (hw : skipsA n T ops o = true) : Region.wanted o (yielded ops a.tmps) = false := by
  unfold skipsA at hw
  unfold Region.wanted
  split at hw
  · cases hw
  · rename_i j want hg
    rw [hg]
    split at hw
    · rename_i d hd
      have hv := h.eval (.tmp d)
      split at hw
      · rename_i b hb
        rw [hb] at hv
        simp only [yielded, hd, Option.bind_some]
        cases ht : a.tmps[d]? with
        | none => simp
        | some u =>
          simp only [Act.eval, Array.getD_eq_getD_getElem?, ht, Option.getD_some] at hv
          cases hv; rename_i h; cases h
          have : b ≠ want := by simpa using hw
          simp [this]
      · rename_i hb
        rw [hb] at hv
        simp only [yielded, hd, Option.bind_some]
        cases ht : a.tmps[d]? with
        | none => simp
        | some u =>
          simp only [Act.eval, Array.getD_eq_getD_getElem?, ht, Option.getD_some] at hv
          cases hv
          simp
      · cases hw
    · cases hw
theorem AL.val {d : Nat} {x : AV} (hw : wantedA n T ops o = true) (hd : o.dst = some d)
    (h : ∀ e a w ρ Z Y, Rp e ⟨n, T, heap⟩ a w ρ Z Y → ∃ v, (execOp a.eval o).run P w = .ok (.value v) w ∧ Val (Kn heap) ρ w Z Y x v) (k : AL P ops Q rest n (pu T d x) heap) : AL P ops Q (o :: rest) n T heap := by
  rintro e a w ⟨ρ, Z, Y, hR⟩
  obtain ⟨v, h1, h2⟩ := h e a w ρ Z Y hR
  refine wpList_val (hR.wanted hw) h1 (k e _ _ ⟨ρ, Z, Y, ?_⟩)
  rw [hd]
  exact hR.put d h2
theorem AL.act {d : Nat} {x : AV} {heap' : List Ob} (hw : wantedA n T ops o = true) (hd : o.dst = some d)
    (h : ∀ e a w ρ Z Y, Rp e ⟨n, T, heap⟩ a w ρ Z Y → ∃ v w' ρ' Z' Y', (execOp a.eval o).run P w = .ok (.value v) w' ∧ Ok e heap' w' ρ' Z' Y' ∧ (∀ x v, Val (Kn heap) ρ w Z Y x v → Val (Kn heap') ρ' w' Z' Y' x v) ∧ Val (Kn heap') ρ' w' Z' Y' x v)
    (k : AL P ops Q rest n (pu T d x) heap') : AL P ops Q (o :: rest) n T heap := by
  rintro e a w ⟨ρ, Z, Y, hR⟩
  obtain ⟨v, w', ρ', Z', Y', h1, h2, h3, h4⟩ := h e a w ρ Z Y hR
  refine wpList_val (hR.wanted hw) h1 (k e _ _ ⟨ρ', Z', Y', ?_⟩)
  rw [hd]
  exact (hR.move h2 h3).put d h4
theorem AL.unit {heap' : List Ob} (hw : wantedA n T ops o = true) (hd : o.dst = none)
    (h : ∀ e a w ρ Z Y, Rp e ⟨n, T, heap⟩ a w ρ Z Y → ∃ w' ρ' Z' Y', (execOp a.eval o).run P w = .ok .skip w' ∧ Ok e heap' w' ρ' Z' Y' ∧ (∀ x v, Val (Kn heap) ρ w Z Y x v → Val (Kn heap') ρ' w' Z' Y' x v))
    (k : AL P ops Q rest n T heap') : AL P ops Q (o :: rest) n T heap := by
  rintro e a w ⟨ρ, Z, Y, hR⟩
  obtain ⟨w', ρ', Z', Y', h1, h2, h3⟩ := h e a w ρ Z Y hR
  refine wpList_unit (hR.wanted hw) h1 (k e _ _ ⟨ρ', Z', Y', ?_⟩)
  rw [hd]
  exact hR.move h2 h3
theorem AL.skip {d : Nat} (hw : skipsA n T ops o = true) (hd : o.dst = some d) (k : AL P ops Q rest n (pu T d (.tup [])) heap) : AL P ops Q (o :: rest) n T heap := by
  rintro e a w ⟨ρ, Z, Y, hR⟩
  unfold wpList
  rw [if_neg (by rw [hR.skips hw]; simp), hd]
  exact k e _ _ ⟨ρ, Z, Y, hR.put d (.tup (us := []) rfl (fun j x u hj => by simp at hj))⟩
theorem AL.skip0 (hw : skipsA n T ops o = true) (hd : o.dst = none) (k : AL P ops Q rest n T heap) : AL P ops Q (o :: rest) n T heap := by
  rintro e a w ⟨ρ, Z, Y, hR⟩
  unfold wpList
  rw [if_neg (by rw [hR.skips hw]; simp), hd]
  exact k e _ _ ⟨ρ, Z, Y, hR⟩
theorem AL.nil (h : Q .normal T heap) : AL P ops Q [] n T heap := fun e a w hR => ⟨T, heap, h, hR⟩
end
end Go.Proofs.Ytmljglphegeilaa

namespace Go.Proofs.Ytmljglphegeilaa
set_option linter.unusedVariables false
set_option linter.unusedSimpArgs false
set_option linter.unnecessarySimpa false
open Go.RowKit
section
variable {P : Program} {w : World}
theorem info_of {t : TypeId} {z : Option Value} {size bytes : Nat} (hI : (P.info? t).map (fun i => (i.zero, i.size, i.bytes)) = some (z, size, bytes)) : ∃ inf, P.info? t = some inf ∧ inf.zero = z ∧ inf.size = size ∧ inf.bytes = bytes := by
  cases hi : P.info? t with
  | none => rw [hi] at hI; simp at hI
  | some i => rw [hi] at hI; simp at hI; exact ⟨i, rfl, hI.1, hI.2.1, hI.2.2⟩
theorem run_append_any (t ot : TypeId) {e : TypeId} (ht : P.underlying t = some (.slice e)) {inf : TypeInfo} (hin : P.info? e = some inf) {z : Value} (hz : inf.zero = some z) (hzs : z.cells.size = inf.size)
    {sa : Option Addr} {n c : Nat} {xs : List Value} (hown : (Res.row sa n c e inf.size xs).holds 0 w) (hrs : Rs w inf.size sa n c xs)
    (xa : Option Addr) (m xc : Nat) {news : List Value} (hr : Rs w inf.size xa m xc news) (h1 : ∀ u ∈ news, u.oneCell' = true) (b1 : n + m ≤ maxLen) (b2 : (n + m) * inf.bytes ≤ 140737488355328) :
    ∃ a' c' w', (Builtin.append_ #[t, t] ot #[.slice sa n c, .slice xa m xc]).run P w = .ok (.slice a' (n + m) c') w' ∧ (Res.row a' (n + m) c' e inf.size (xs ++ news)).holds 0 w' ∧ w.grownBy w' (if c = 0 then none else sa.map (·.block)) ∧
      (∀ k, (Res.row a' (n + m) c' e inf.size (xs ++ news)).blk = some k → (if c = 0 then none else sa.map (·.block)) = some k ∨ (w.heap.size ≤ k ∧ k < w'.heap.size)) := by
  have hlen : (xs ++ news).length = (n + m) * inf.size := by rw [List.length_append, hrs.len, hr.len, Nat.add_mul]
  have hsmall : n + m ≤ 9223372036854775807 := by simp only [maxLen] at b1; omega
  by_cases hm : m = 0
  · -- nothing is added
    subst hm
    have hn : news = [] := List.eq_nil_of_length_eq_zero (by simpa using hr.len)
    subst hn
    refine ⟨sa, c, w, ?_, by simpa using hown, ⟨rfl, rfl, rfl, Nat.le_refl _, fun _ _ _ => rfl⟩, fun k hk => .inl hk⟩
    have hcap := hrs.cap
    cases sa with
    | none =>
      obtain ⟨rfl, rfl⟩ := hrs.none rfl
      cases xa <;> simp [Builtin.append_, run_underlying ht, sizeOf, typeInfo, hin, Builtin.lenOf, Builtin.firstCells, loadCells, loadCellsFrom]
    | some b => cases xa <;> simp [Builtin.append_, run_underlying ht, sizeOf, typeInfo, hin, Builtin.lenOf, Builtin.firstCells, hcap, storeCells, loadCells, loadCellsFrom]
  · cases xa with
    | none => exact absurd (hr.none rfl).1 hm
    | some ax =>
      have hnews : ∀ j u, news[j]? = some u → w.cell? (ax.add j) = some u := hr.cells
      have grown : ∀ (old : Nat), old < n + m → ∀ (row : Option Nat),
          (Res.row (some ⟨w.heap.size, 0, none⟩) (n + m) (grownCap w (n + m) old e) e inf.size (xs ++ news)).holds 0 (w.drew.alloc (.cells (xs.toArray ++ news.toArray ++ Builtin.zeroCells z.cells (grownCap w (n + m) old e - (n + m))) e)) ∧
          w.grownBy (w.drew.alloc (.cells (xs.toArray ++ news.toArray ++ Builtin.zeroCells z.cells (grownCap w (n + m) old e - (n + m))) e)) row := by
        intro old ho row
        have hge := grownCap_ge w (n + m) old e
        have hcm : grownCap w (n + m) old e ≤ maxLen := grownCap_le_maxLen w (n + m) old e b1
        refine ⟨.inr ⟨by omega, hlen, .inr ⟨w.heap.size, _, _, rfl, Nat.zero_le _, heap_alloc_new w.drew _, hge, hcm, ?_, ?_⟩⟩, ⟨rfl, rfl, rfl, by simp, fun k hk _ => heap_alloc_old w.drew _ k hk⟩⟩
        · simp only [Array.size_append, List.size_toArray, size_zeroCells, hzs, hrs.len, hr.len, ← Nat.add_mul]
          congr 1
          omega
        · simp only [Array.toList_append, List.append_assoc]
          rw [← List.append_assoc, ← hlen]
          exact List.take_left
      have fresh : ∀ (o : Obj) (nn cc : Nat) (yy : List Value) (k : Nat) (q : Option Nat), (Res.row (some ⟨w.heap.size, 0, none⟩) nn cc e inf.size yy).blk = some k → q = some k ∨ (w.heap.size ≤ k ∧ k < (w.drew.alloc o).heap.size) := by
        intro o nn cc yy k q hk
        simp [Res.blk] at hk
        obtain ⟨_, hk⟩ := hk
        subst hk
        exact .inr ⟨Nat.le_refl _, by simp⟩
      cases sa with
      | none =>
        obtain ⟨rfl, rfl⟩ := hrs.none rfl
        have hxs : xs = [] := List.eq_nil_of_length_eq_zero (by simpa using hrs.len)
        subst hxs
        have hrun := run_append_nil (P := P) w t ot e inf z ht hin hz ax m xc news hr.len hnews (by omega) (by omega) (by have hb := b2; simp only [Nat.zero_add] at hb; omega)
        have hgr := grown 0 (by omega) none
        simp only [Nat.zero_add, List.nil_append, Array.empty_append] at hgr ⊢
        exact ⟨_, _, _, hrun, hgr.1, hgr.2, fun k hk => fresh _ _ _ _ k _ hk⟩
      | some ab =>
        by_cases hroom : n + m ≤ c
        · have hc0 : c ≠ 0 := by omega
          rcases hown with ⟨h0, _, _⟩ | ⟨hcp, hown⟩
          · omega
          rcases hown.2 with ⟨he, _⟩ | ⟨g, cap, cur, he, hbg, hg, hnc, hcm, hcs, htake⟩
          · simp at he
          simp only [Value.slice.injEq, Option.some.injEq] at he
          obtain ⟨rfl, _, rfl⟩ := he
          have hfit : n * inf.size + news.length ≤ cur.size := by rw [hr.len, hcs, ← Nat.add_mul]; exact Nat.mul_le_mul_right _ hroom
          have hrun := run_append_room (P := P) w t ot e inf ht hin g n c cur hg ax m xc news hr.len hnews h1 hroom hfit
          refine ⟨_, _, _, hrun, .inr ⟨hcp, hlen, .inr ⟨g, c, _, rfl, hbg, setRow_heap w g cur _ e _ hg, hroom, hcm, ?_, ?_⟩⟩, ⟨rfl, rfl, rfl, by simp, fun k _ hk => setRow_other w g k _ (fun e => hk (by simp [e, hc0]))⟩, fun k hk => .inl (by simpa [Res.blk, hc0] using hk)⟩
          · simp only [List.size_toArray, List.length_append, List.length_take, List.length_drop, Array.length_toList]
            omega
          · rw [htake, ← hlen]
            exact List.take_left
        · have hrun := run_append_grow (P := P) w t ot e inf z ht hin hz ab n c xs hrs.len hrs.cells ax m xc news hr.len hnews (by omega) (by omega) (growslice_fits (by omega) b2)
          have hgr := grown c (by omega) (if c = 0 then none else Option.map (·.block) (some ab))
          exact ⟨_, _, _, hrun, hgr.1, hgr.2, fun k hk => fresh _ _ _ _ k _ hk⟩

theorem run_put_any {T : TypeId} {tsize : Nat} (hs : (sizeOf T).run P w = .ok tsize w) {sa : Option Addr} {m : Nat} {v : Value} {vs : List Value} (hv : v.cells = vs.toArray) (hl : vs.length = tsize) (h1 : ∀ u ∈ vs, u.oneCell' = true)
    {n c : Nat} {E : TypeId} {size : Nat} {xs : List Value} (hown : (Res.row sa n c E size xs).holds 0 w) (hf : m + vs.length ≤ n * size) (hne : vs ≠ []) :
    ∃ w', (Instr.storeAt T (.pointer (some ((adr sa).add m))) v).run P w = .ok () w' ∧ (Res.row sa n c E size (xs.take m ++ vs ++ xs.drop (m + vs.length))).holds 0 w' ∧ w.grownBy w' (if c = 0 then none else sa.map (·.block)) := by
  have hpos : 0 < vs.length := List.length_pos_iff.2 hne
  rcases hown with ⟨_, hn0, _⟩ | ⟨hcp, hown⟩
  · rw [hn0, Nat.zero_mul] at hf; omega
  have hc0 : c ≠ 0 := by omega
  rcases hown.2 with ⟨he, hn0⟩ | ⟨g, cap, cur, he, hbg, hg, hnc, hcm, hcs, htake⟩
  · rw [hn0, Nat.zero_mul] at hf; omega
  simp only [Value.slice.injEq] at he
  obtain ⟨rfl, _, rfl⟩ := he
  have hsz : n * size ≤ cur.size := by rw [hcs]; exact Nat.mul_le_mul_right _ hnc
  have hxl := hown.1
  have hst := run_storeCells_at P g m E vs 0 cur w hg (by omega) h1
  simp only [Nat.add_zero] at hst
  have hadd : (adr (some ⟨g, 0, none⟩)).add m = ⟨g, m, none⟩ := by
    show (⟨g, 0, none⟩ : Addr).add m = _
    rw [add_at]; simp
  have hxs : xs = cur.toList.take (n * size) := htake.symm
  have hrow : (w.setRow g (cur.toList.take m ++ vs ++ cur.toList.drop (m + vs.length)).toArray).ownsRow 0 E size (.slice (some ⟨g, 0, none⟩) n c) n (xs.take m ++ vs ++ xs.drop (m + vs.length)) := by
    refine ⟨by simp only [List.length_append, List.length_take, List.length_drop]; omega, .inr ⟨g, c, _, rfl, hbg, setRow_heap w g cur _ E _ hg, hnc, hcm, ?_, ?_⟩⟩
    · simp only [List.size_toArray, List.length_append, List.length_take, List.length_drop, Array.length_toList]
      omega
    · rw [hxs]
      apply List.ext_getElem?
      intro i
      simp only [List.getElem?_take, List.getElem?_append, List.length_append, List.length_take, List.getElem?_drop, Array.length_toList]
      have e1 : min m cur.size = m := by omega
      have e2 : min m (min (n * size) cur.size) = m := by omega
      rw [e1, e2]
      repeat' split
      all_goals first | rfl | (exfalso; omega) | (congr 1; omega)
  refine ⟨w.setRow g (cur.toList.take m ++ vs ++ cur.toList.drop (m + vs.length)).toArray, ?_, .inr ⟨hcp, hrow⟩, ⟨rfl, rfl, rfl, by simp, fun k _ hk => setRow_other w g k _ (fun e => hk (by simp [e, hc0]))⟩⟩
  simp [Instr.storeAt, Instr.sureAddr, storeVar, hs, hv, hl, hadd, hst, Result.andThen]
theorem run_store_box {T : TypeId} {tsize : Nat} (hs : (sizeOf T).run P w = .ok tsize w) {b off : Nat} {v : Value} {vs : List Value} (hv : v.cells = vs.toArray) (hl : vs.length = tsize) (h1 : ∀ u ∈ vs, u.oneCell' = true)
    {T' : TypeId} {cs : List Value} (hh : w.heap[b]? = some (.cells cs.toArray T' (0, 0))) (hf : off + vs.length ≤ cs.length) :
    ∃ w', (Instr.storeAt T (.pointer (some ⟨b, off, none⟩)) v).run P w = .ok () w' ∧ w'.heap[b]? = some (.cells (cs.take off ++ vs ++ cs.drop (off + vs.length)).toArray T' (0, 0)) ∧ w.grownBy w' (some b) := by
  have hst := run_storeCells_at P b off T' vs 0 cs.toArray w hh (by simpa using hf) h1
  simp only [Nat.add_zero] at hst
  refine ⟨w.setRow b (cs.take off ++ vs ++ cs.drop (off + vs.length)).toArray, ?_, setRow_heap w b cs.toArray _ T' _ hh, ⟨rfl, rfl, rfl, by simp, fun k _ hk => setRow_other w b k _ (fun e => hk (by rw [e]))⟩⟩
  simp [Instr.storeAt, Instr.sureAddr, storeVar, hs, hv, hl, hst, Result.andThen]
theorem run_fieldAt {T : TypeId} {f : Nat} {fs : Array Field} (hu : P.underlying T = some (.struct fs)) {fd : Field} (hf : fs[f]? = some fd)
    {z : Option Value} {size bytes : Nat} (hI : (P.info? fd.type).map (fun i => (i.zero, i.size, i.bytes)) = some (z, size, bytes)) (hs : size ≠ 0) (p : Addr) : (Instr.fieldAt T (.pointer (some p)) f).run P w = .ok (.pointer (some (p.add fd.offset))) w := by
  cases hin : P.info? fd.type with
  | none => rw [hin] at hI; simp at hI
  | some inf =>
    rw [hin] at hI
    simp at hI
    simp [Instr.fieldAt, run_underlying hu, hf, Instr.sureAddr, fieldPlace, sizeOf, typeInfo, hin, hI.2.1, hs, Result.andThen]
theorem run_idx {t : TypeId} {e : TypeId} (ht : P.underlying t = some (.slice e)) {z : Option Value} {size bytes : Nat} (hI : (P.info? e).map (fun i => (i.zero, i.size, i.bytes)) = some (z, size, bytes))
    (sa : Option Addr) (n c : Nat) (kd : IntKind) (J : Nat) (h0 : sa = .none → n = 0) (h1 : J < n) : (Instr.indexAt t (.slice sa n c) (.int kd (J : Int))).run P w = .ok (.pointer (some ((adr sa).add (J * size)))) w := by
  cases sa with
  | none => have := h0 rfl; omega
  | some b =>
    rw [run_indexAt_slice w t b n c kd J (by rw [elem_of ht]; exact ht), if_pos ⟨by omega, by omega⟩, elem_of ht, run_size hI]
    rfl
end
end Go.Proofs.Ytmljglphegeilaa

namespace Go.Proofs.Ytmljglphegeilaa
set_option linter.unusedVariables false
set_option linter.unusedSimpArgs false
set_option linter.unnecessarySimpa false
open Go.RowKit
inductive Rd (heap : List Ob) (s : Nat) : AV → List (List Tr) → Prop
  | ln {els : List (List Tr)} (h : ∀ cs ∈ els, cs.length = s) : Rd heap s (.ln els) els
  | lst {els : List (List Tr)} (h : ∀ cs ∈ els, cs.length = s) : Rd heap s (.t (.lst els)) els
  | nl : Rd heap s .nl []
  | sl {i k m : Nat} {E : TypeId} {els : List (List Tr)} (hi : heap[i]? = some (.row k E s els)) (hm : m ≤ els.length) : Rd heap s (.sl i k m) (els.take m)
  | all {i k m : Nat} {E : TypeId} {els : List (List Tr)} (hi : heap[i]? = some (.row k E s els)) (hm : els.length = m) : Rd heap s (.sl i k m) els
  | sub {i k off m : Nat} {E : TypeId} {els : List (List Tr)} (hi : heap[i]? = some (.row k E s els)) (hm : off + m ≤ els.length) : Rd heap s (.sub i k off m) ((els.drop off).take m)
def lenA : AV → Option Nat
  | .ln els => some els.length
  | .t (.lst els) => some els.length
  | .nl => some 0
  | .sl _ _ m => some m
  | .sub _ _ _ m => some m
  | _ => none
def shiftA (m : Nat) : AV → Option AV
  | .ptr i off => some (.ptr i (off + m))
  | .rp i k idx off => some (.rp i k idx (off + m))
  | .lp cs => some (.lp (cs.drop m))
  | _ => none
def trA : AV → Option Tr
  | .t x => some x
  | .nl => some (.lst [])
  | _ => none
def trsA : List AV → Option (List Tr)
  | [] => some []
  | x :: l => match trA x, trsA l with
    | some y, some m => some (y :: m)
    | _, _ => none
section
variable {heap : List Ob} {w w' : World} {ρ ρ' : Rho} {Z Z' Y Y' : Nat → Prop}
theorem rs_take {size : Nat} {a : Option Addr} {n c m : Nat} {xs : List Value} (h : Rs w size a n c xs) (hm : m ≤ n) : Rs w size a m c (xs.take (m * size)) := by
  have h1 := h.cap
  have h2 := h.len
  have h3 : m * size ≤ n * size := Nat.mul_le_mul_right _ hm
  refine ⟨by omega, h.most, fun e => ⟨by have := (h.none e).1; omega, (h.none e).2⟩, by rw [List.length_take]; omega, fun j u hj => ?_⟩
  rw [List.getElem?_take] at hj
  split at hj
  · exact h.cells j u hj
  · cases hj
theorem HRep.row (h : HRep heap w ρ Z Y) {i k : Nat} {E : TypeId} {s : Nat} {els : List (List Tr)} (hi : heap[i]? = some (.row k E s els)) :
    (ρ i k).s = s ∧ ∃ xs, Elems (Frz w Z) s els xs ∧ (Res.row (ρ i k).a els.length (ρ i k).c E s xs).holds 0 w ∧ Rs w s (ρ i k).a els.length (ρ i k).c xs := by
  obtain ⟨h1, xs, h2, h3⟩ := h.obs i _ hi
  exact ⟨h1, xs, h2, h3, rs_of_holds h3⟩
theorem resize {R : Tr → Value → Prop} {size s : Nat} {a : Option Addr} {c : Nat} {els : List (List Tr)} {xs : List Value} (h : ∀ cs ∈ els, cs.length = s) (hr : Rs w size a els.length c xs) (he : Elems R size els xs) : Rs w s a els.length c xs ∧ Elems R s els xs := by
  match els, h, hr, he with
  | [], h, hr, he =>
    have hx : xs = [] := List.eq_nil_of_length_eq_zero (by rw [he.len]; simp)
    subst hx
    exact ⟨⟨hr.cap, hr.most, hr.none, by simp, hr.cells⟩, .nil⟩
  | e :: els, h, hr, he =>
    have h1 := h e (List.mem_cons_self ..)
    have h2 := he.each e (List.mem_cons_self ..)
    rw [h1] at h2; subst h2
    exact ⟨hr, he⟩
theorem Rd.open (hr : HRep heap w ρ Z Y) {s : Nat} {x : AV} {els : List (List Tr)} {v : Value} (h : Rd heap s x els) (hv : Val (Kn heap) ρ w Z Y x v) : ∃ a c xs, v = .slice a els.length c ∧ Rs w s a els.length c xs ∧ Elems (Frz w Z) s els xs := by
  cases h with
  | ln h => cases hv with
    | ln hr' hz hn he => subst hn; obtain ⟨h1, h2⟩ := resize h hr' he; exact ⟨_, _, _, rfl, h1, h2⟩
  | lst h => cases hv with
    | t h' => obtain ⟨a, c, size, xs, h1, h2, _, h3⟩ := h'.open; obtain ⟨h4, h5⟩ := resize h h2 h3; exact ⟨a, c, xs, h1, h4, h5⟩
  | nl => cases hv with
    | nl a => exact ⟨a, 0, [], rfl, ⟨Nat.le_refl _, Nat.zero_le _, fun _ => ⟨rfl, rfl⟩, by simp, fun j u h => by simp at h⟩, .nil⟩
  | @sl i k m E els hi hm =>
    obtain ⟨h1, xs, h2, h3, h4⟩ := hr.row hi
    cases hv with
    | sl hk hc _ =>
      have e : (els.take m).length = m := by rw [List.length_take]; omega
      rw [e]
      exact ⟨_, _, _, rfl, rs_take h4 hm, h2.take m⟩
  | @all i k m E els hi hm =>
    obtain ⟨h1, xs, h2, h3, h4⟩ := hr.row hi
    cases hv with
    | sl hk hc _ => subst hm; exact ⟨_, _, _, rfl, h4, h2⟩
  | @sub i k off m E els hi hm =>
    obtain ⟨h1, xs, h2, h3, h4⟩ := hr.row hi
    cases hv with
    | @sub _ _ _ _ a c hk hn hmx h0 ha =>
      have e : ((els.drop off).take m).length = m := by rw [List.length_take, List.length_drop]; omega
      rw [e]
      refine ⟨_, _, _, rfl, ⟨hn, hmx, h0, ?_, fun j u hj => ?_⟩, (h2.drop off).take m⟩
      · have := ((h2.drop off).take m).len
        rw [e] at this; exact this
      · rw [List.getElem?_take] at hj
        split at hj
        · rename_i hlt
          have hm0 : m ≠ 0 := by intro e; rw [e] at hlt; simp at hlt
          rw [ha hm0, List.getElem?_drop] at *
          show w.cell? (Addr.add ((adr (ρ i k).a).add _) j) = _
          rw [add_add, h1]
          exact h4.cells _ u hj
        · cases hj
theorem lenA_open {Kn : Nat → Nat → Prop} {x : AV} {v : Value} {m : Nat} (h : lenA x = some m) (hv : Val Kn ρ w Z Y x v) : ∃ a c, v = .slice a m c := by
  cases hv <;> simp [lenA] at h
  · rename_i x h'
    cases x with
    | v => cases h
    | lst els => cases h; obtain ⟨a, c, _, _, e, _⟩ := h'.open; exact ⟨a, c, e⟩
  · exact ⟨_, _, by rw [h]⟩
  · rename_i hn _; exact ⟨_, _, by rw [← h, hn]⟩
  · exact ⟨_, _, by rw [h]⟩
  · exact ⟨_, _, by rw [h]⟩
theorem shiftA_open {Kn : Nat → Nat → Prop} {x y : AV} {v : Value} {m : Nat} (h : shiftA m x = some y) (hv : Val Kn ρ w Z Y x v) : ∃ p, v = .pointer (some p) ∧ Val Kn ρ w Z Y y (.pointer (some (p.add m))) := by
  cases hv <;> simp [shiftA] at h <;> subst h
  · rename_i cs p us hl ho hc hv
    refine ⟨_, rfl, .lp (us := us.drop m) (by simp [hl]) (fun u hu => ho u (List.mem_of_mem_drop hu)) (fun j u hj => ?_) (fun j x u hj hu => ?_)⟩
    · rw [List.getElem?_drop] at hj
      have := hc _ u hj
      exact ⟨by rw [add_block]; exact this.1, by rw [add_add]; exact this.2⟩
    · rw [List.getElem?_drop] at hj hu
      exact hv _ x u hj hu
  · rename_i hk ha; exact ⟨_, rfl, by rw [add_at]; exact .ptr hk ha⟩
  · rename_i hk; exact ⟨_, rfl, by rw [add_add, Nat.add_assoc]; exact .rp hk⟩
theorem trA_open {Kn : Nat → Nat → Prop} {x : AV} {y : Tr} {v : Value} (h : trA x = some y) (hv : Val Kn ρ w Z Y x v) : Frz w Z y v := by
  cases hv <;> simp [trA] at h <;> subst h
  · assumption
  · exact .shut (size := 0) (xs := []) rfl ⟨Nat.le_refl _, Nat.zero_le _, fun _ => ⟨rfl, rfl⟩, rfl, fun j u h => by simp at h⟩ (fun h => absurd rfl h) .nil
theorem trsA_open {Kn : Nat → Nat → Prop} : ∀ {l : List AV} {ts : List Tr} {us : List Value}, trsA l = some ts → AVs (Val Kn ρ w Z Y) l us → ts.length = us.length ∧ ∀ (j : Nat) x u, ts[j]? = some x → us[j]? = some u → Frz w Z x u := by
  intro l
  induction l with
  | nil =>
    intro ts us h hv
    cases h
    have := hv.len
    exact ⟨this, fun j x u hj => by simp at hj⟩
  | cons x l ih =>
    intro ts us h hv
    unfold trsA at h
    split at h
    · rename_i y m hy hm
      cases h
      match us, hv with
      | [], hv => have := hv.len; simp at this
      | u :: us, hv =>
        have h1 := ih hm ⟨by have := hv.len; simpa using this, fun j x u hj hu => hv.at_ (j + 1) x u (by simpa using hj) (by simpa using hu)⟩
        refine ⟨by simp [h1.1], fun j z v hj hu => ?_⟩
        cases j with
        | zero => simp at hj hu; subst hj hu; exact trA_open hy (hv.at_ 0 x u rfl rfl)
        | succ j => exact h1.2 j z v (by simpa using hj) (by simpa using hu)
    · cases h
end
section
variable {P : Program} {ops : Array Oper} {Q : QS} {rest : List Oper} {o : Oper} {n : Fr} {T : Nat → AV} {heap : List Ob} {d : Nat}
theorem vals_mono {R R' : AV → Value → Prop} {l : List AV} {us : List Value} (h : AVs R l us) (hm : ∀ x v, R x v → R' x v) : AVs R' l us := ⟨h.len, fun j x u a b => hm _ _ (h.at_ j x u a b)⟩
theorem A_move (hw : wantedA n T ops o = true) (hd : o.dst = some d) (x : Operand) (ho : o.op = .move x ∨ o.op = .assign x) {y : AV} (hx : evA n T x = y) (k : AL P ops Q rest n (pu T d y) heap) : AL P ops Q (o :: rest) n T heap := by
  subst hx
  exact AL.val hw hd (fun e a w ρ Z Y hR => ⟨a.eval x, by unfold execOp; rcases ho with ho | ho <;> rw [ho] <;> rfl, hR.eval x⟩) k
theorem A_box (hw : wantedA n T ops o = true) (hd : o.dst = some d) (t : TypeId) (x : Operand) (ho : o.op = .box t x) {cs : List AV} (hx : (evA n T x).flat = some cs) {heap' : List Ob} {N : Nat} (hat : AtL heap N [.box t cs] heap')
    (k : AL P ops Q rest n (pu T d (.ptr N 0)) heap') : AL P ops Q (o :: rest) n T heap := by
  refine AL.act hw hd (fun e a w ρ Z Y hR => ?_) k
  obtain ⟨us, h1, h2, h3⟩ := (hR.eval x).flat hx
  obtain ⟨ρ', k1, k2, k3, k4⟩ := hR.ok.push1 (o := .box t cs) hat (w' := w.alloc (.cells us.toArray t)) (pl := ⟨some ⟨w.heap.size, 0, none⟩, 0, 0⟩) ⟨rfl, rfl, rfl⟩ (by simp) (fun b hb => heap_alloc_old w _ b hb) (fun ρ' hN hρ => ⟨w.heap.size, us, by rw [hN], heap_alloc_new w _, vals_mono h2 fun x v hv => hR.ok.rep.val (fun j k hj => ⟨(hat.kn hj).1, hρ j k hj⟩) (fun _ h => h) (fun b hb => ⟨hb, heap_alloc_old w _ b (hR.ok.rep.ylt b hb)⟩) hv, h3⟩) (fun b hb _ => by simp at hb; subst hb; simp)
  refine ⟨.pointer (some ⟨w.heap.size, 0, none⟩), _, ρ', Z, Y, ?_, k1, k2, .ptr ⟨_, hat.one, Nat.le_refl _⟩ (by rw [k3])⟩
  refine val_of (s := Instr.box t (a.eval x)) (by unfold execOp; rw [ho]) ?_
  simp [Instr.box, newVar, newRow, h1]
theorem A_alloc (hw : wantedA n T ops o = true) (hd : o.dst = some d) (t : TypeId) (ho : o.op = .alloc t) {z : Value} {size bytes : Nat} (hI : (P.info? t).map (fun i => (i.zero, i.size, i.bytes)) = some (some z, size, bytes)) {cs : List AV} (hx : (ofConst z).flat = some cs)
    {heap' : List Ob} {N : Nat} (hat : AtL heap N [.box t cs] heap') (k : AL P ops Q rest n (pu T d (.ptr N 0)) heap') : AL P ops Q (o :: rest) n T heap := by
  refine AL.act hw hd (fun e a w ρ Z Y hR => ?_) k
  obtain ⟨us, h1, h2, h3⟩ := (val_ofConst (Kn := Kn heap) (ρ := ρ) (w := w) (Z := Z) (Y := Y) z).flat hx
  obtain ⟨inf, hi, hz, _, _⟩ := info_of hI
  obtain ⟨ρ', k1, k2, k3, k4⟩ := hR.ok.push1 (o := .box t cs) hat (w' := w.alloc (.cells us.toArray t)) (pl := ⟨some ⟨w.heap.size, 0, none⟩, 0, 0⟩) ⟨rfl, rfl, rfl⟩ (by simp) (fun b hb => heap_alloc_old w _ b hb) (fun ρ' hN hρ => ⟨w.heap.size, us, by rw [hN], heap_alloc_new w _, vals_mono h2 fun x v hv => hR.ok.rep.val (fun j k hj => ⟨(hat.kn hj).1, hρ j k hj⟩) (fun _ h => h) (fun b hb => ⟨hb, heap_alloc_old w _ b (hR.ok.rep.ylt b hb)⟩) hv, h3⟩) (fun b hb _ => by simp at hb; subst hb; simp)
  refine ⟨.pointer (some ⟨w.heap.size, 0, none⟩), _, ρ', Z, Y, ?_, k1, k2, .ptr ⟨_, hat.one, Nat.le_refl _⟩ (by rw [k3])⟩
  refine val_of (s := Instr.alloc t true (.tuple #[])) (by unfold execOp; rw [ho]) ?_
  simp [Instr.alloc, zeroValue, typeInfo, hi, hz, newVar, newRow, h1]
theorem A_field (hw : wantedA n T ops o = true) (hd : o.dst = some d) (t : TypeId) (x : Operand) (f : Nat) (ho : o.op = .fieldAddr t x f) {fs : Array Field} (hu : P.underlying t = some (.struct fs)) {fd : Field} (hf : fs[f]? = some fd)
    {z : Option Value} {size bytes : Nat} (hI : (P.info? fd.type).map (fun i => (i.zero, i.size, i.bytes)) = some (z, size, bytes)) (hs : size ≠ 0) (m : Nat) (hm : fd.offset = m) {y : AV} (hy : shiftA m (evA n T x) = some y) (k : AL P ops Q rest n (pu T d y) heap) : AL P ops Q (o :: rest) n T heap := by
  subst hm
  refine AL.val hw hd (fun e a w ρ Z Y hR => ?_) k
  obtain ⟨p, h1, h2⟩ := shiftA_open hy (hR.eval x)
  exact ⟨_, val_of (s := Instr.fieldAt t (a.eval x) f) (by unfold execOp; rw [ho]) (by rw [h1]; exact run_fieldAt hu hf hI hs p), h2⟩
theorem HRep.box {w : World} {ρ : Rho} {Z Y : Nat → Prop} (h : HRep heap w ρ Z Y) {i : Nat} {t : TypeId} {cs : List AV} (hi : heap[i]? = some (.box t cs)) {off : Nat} {v : Value} (hv : Val (Kn heap) ρ w Z Y (.ptr i off) v) :
    ∃ b us, v = .pointer (some ⟨b, off, none⟩) ∧ (ρ i 0).a = some ⟨b, 0, none⟩ ∧ w.heap[b]? = some (.cells us.toArray t (0, 0)) ∧ AVs (Val (Kn heap) ρ w Z Y) cs us ∧ ∀ u ∈ us, u.oneCell' = true := by
  obtain ⟨b, us, h1, h2, h3, h4⟩ := h.obs i _ hi
  cases hv with
  | ptr hk ha => rw [h1] at ha; cases ha; exact ⟨b, us, rfl, h1, h2, h3, h4⟩
theorem A_load (hw : wantedA n T ops o = true) (hd : o.dst = some d) (t : TypeId) (x : Operand) (ho : o.op = .load t x) {ds : TypeDesc} (hu : P.underlying t = some ds) (hds : (match ds with | .struct _ | .array _ _ => true | _ => false) = false)
    {i off : Nat} (hx : evA n T x = .ptr i off) {t' : TypeId} {cs : List AV} (hi : heap[i]? = some (.box t' cs)) {u : AV} (hc : cs[off]? = some u) (k : AL P ops Q rest n (pu T d u) heap) : AL P ops Q (o :: rest) n T heap := by
  refine AL.val hw hd (fun e a w ρ Z Y hR => ?_) k
  have hv := hR.eval x
  rw [hx] at hv
  obtain ⟨b, us, h1, _, h2, h3, h4⟩ := hR.ok.rep.box hi hv
  have hlt := get_lt hc
  rw [h3.len] at hlt
  refine ⟨us[off], val_of (s := Instr.loadAt t (a.eval x)) (by unfold execOp; rw [ho]) ?_, h3.at_ off u _ hc (List.getElem?_eq_getElem hlt)⟩
  rw [h1]
  exact run_load_one hu hds (by rw [cell_of_row w b off _ _ _ h2]; simp [List.getElem?_eq_getElem hlt])
theorem A_load_agg (hw : wantedA n T ops o = true) (hd : o.dst = some d) (t : TypeId) (x : Operand) (ho : o.op = .load t x) {ds : TypeDesc} (hu : P.underlying t = some ds) (hds : (match ds with | .struct _ | .array _ _ => true | _ => false) = true)
    {z : Option Value} {size bytes : Nat} (hI : (P.info? t).map (fun i => (i.zero, i.size, i.bytes)) = some (z, size, bytes)) {i off : Nat} (hx : evA n T x = .ptr i off) {t' : TypeId} {cs : List AV} (hi : heap[i]? = some (.box t' cs)) {us' : List AV} (hc : (cs.drop off).take size = us') (hl : us'.length = size)
    (k : AL P ops Q rest n (pu T d (.agg us')) heap) : AL P ops Q (o :: rest) n T heap := by
  subst hc
  refine AL.val hw hd (fun e a w ρ Z Y hR => ?_) k
  have hv := hR.eval x
  rw [hx] at hv
  obtain ⟨b, us, h1, _, h2, h3, h4⟩ := hR.ok.rep.box hi hv
  have hlen : ((us.drop off).take size).length = size := by
    rw [List.length_take, List.length_drop] at hl ⊢
    rw [h3.len] at hl; exact hl
  refine ⟨.agg ((us.drop off).take size).toArray, val_of (s := Instr.loadAt t (a.eval x)) (by unfold execOp; rw [ho]) ?_, .agg (by rw [hl, hlen]) (fun u hu => h4 u (List.mem_of_mem_drop (List.mem_of_mem_take hu))) (fun j x u hj hu => ?_)⟩
  · rw [h1]
    refine run_load_agg hu hds hI hlen fun j u hj => ?_
    rw [add_at, cell_of_row w b _ _ _ _ h2]
    rw [List.getElem?_take] at hj
    split at hj
    · rw [List.getElem?_drop] at hj; simpa using hj
    · cases hj
  · rw [List.getElem?_take] at hj hu
    split at hj
    · rename_i hlt
      rw [if_pos hlt] at hu
      rw [List.getElem?_drop] at hj hu
      exact h3.at_ _ x u hj hu
    · cases hj
theorem lp_open {Kn : Nat → Nat → Prop} {w : World} {ρ : Rho} {Z Y : Nat → Prop} {cs : List AV} {v : Value} (hv : Val Kn ρ w Z Y (.lp cs) v) : ∃ p us, v = .pointer (some p) ∧ (∀ (j : Nat) u, us[j]? = some u → Y p.block ∧ w.cell? (p.add j) = some u) ∧ AVs (Val Kn ρ w Z Y) cs us ∧ ∀ u ∈ us, u.oneCell' = true := by
  cases hv with
  | lp hl ho hc hv => exact ⟨_, _, rfl, hc, ⟨hl, hv⟩, ho⟩
theorem A_load_lp (hw : wantedA n T ops o = true) (hd : o.dst = some d) (t : TypeId) (x : Operand) (ho : o.op = .load t x) {ds : TypeDesc} (hu : P.underlying t = some ds) (hds : (match ds with | .struct _ | .array _ _ => true | _ => false) = false)
    {cs : List AV} (hx : evA n T x = .lp cs) {u : AV} (hc : cs[0]? = some u) (k : AL P ops Q rest n (pu T d u) heap) : AL P ops Q (o :: rest) n T heap := by
  refine AL.val hw hd (fun e a w ρ Z Y hR => ?_) k
  have hv := hR.eval x
  rw [hx] at hv
  obtain ⟨p, us, h1, h2, h3, h4⟩ := lp_open hv
  have hlt := get_lt hc
  rw [h3.len] at hlt
  refine ⟨us[0], val_of (s := Instr.loadAt t (a.eval x)) (by unfold execOp; rw [ho]) ?_, h3.at_ 0 u _ hc (List.getElem?_eq_getElem hlt)⟩
  rw [h1]
  have := (h2 0 _ (List.getElem?_eq_getElem hlt)).2
  exact run_load_one hu hds this
theorem A_load_lp_agg (hw : wantedA n T ops o = true) (hd : o.dst = some d) (t : TypeId) (x : Operand) (ho : o.op = .load t x) {ds : TypeDesc} (hu : P.underlying t = some ds) (hds : (match ds with | .struct _ | .array _ _ => true | _ => false) = true)
    {z : Option Value} {size bytes : Nat} (hI : (P.info? t).map (fun i => (i.zero, i.size, i.bytes)) = some (z, size, bytes)) {cs : List AV} (hx : evA n T x = .lp cs) {us' : List AV} (hc : cs.take size = us') (hl : us'.length = size)
    (k : AL P ops Q rest n (pu T d (.agg us')) heap) : AL P ops Q (o :: rest) n T heap := by
  subst hc
  refine AL.val hw hd (fun e a w ρ Z Y hR => ?_) k
  have hv := hR.eval x
  rw [hx] at hv
  obtain ⟨p, us, h1, h2, h3, h4⟩ := lp_open hv
  have hlen : (us.take size).length = size := by
    rw [List.length_take] at hl ⊢
    rw [h3.len] at hl; exact hl
  refine ⟨.agg (us.take size).toArray, val_of (s := Instr.loadAt t (a.eval x)) (by unfold execOp; rw [ho]) ?_, .agg (by rw [hl, hlen]) (fun u hu => h4 u (List.mem_of_mem_take hu)) (fun j x u hj hu => ?_)⟩
  · rw [h1]
    refine run_load_agg hu hds hI hlen fun j u hj => ?_
    rw [List.getElem?_take] at hj
    split at hj
    · exact (h2 j u hj).2
    · cases hj
  · rw [List.getElem?_take] at hj hu
    split at hj
    · rename_i hlt
      rw [if_pos hlt] at hu
      exact h3.at_ _ x u hj hu
    · cases hj
theorem HRep.rowcell {w : World} {ρ : Rho} {Z Y : Nat → Prop} (h : HRep heap w ρ Z Y) {i k : Nat} {E : TypeId} {s : Nat} {els : List (List Tr)} (hi : heap[i]? = some (.row k E s els)) {idx : Nat} {cs : List Tr} (he : els[idx]? = some cs) :
    ∃ us : List Value, us.length = cs.length ∧ (∀ (j : Nat) u, us[j]? = some u → w.cell? ((adr (ρ i k).a).add (idx * (ρ i k).s + j)) = some u) ∧ ∀ (j : Nat) x u, cs[j]? = some x → us[j]? = some u → Frz w Z x u := by
  obtain ⟨h1, xs, h2, h3, h4⟩ := h.row hi
  have hcl := h2.each cs (List.mem_of_getElem? he)
  have hlt := get_lt he
  have hle : idx * s + s ≤ xs.length := by rw [h2.len, ← Nat.succ_mul]; exact Nat.mul_le_mul_right _ hlt
  refine ⟨(xs.drop (idx * s)).take s, by rw [List.length_take, List.length_drop, hcl]; omega, fun j u hj => ?_, fun j x u hj hu => ?_⟩
  · rw [List.getElem?_take] at hj
    split at hj
    · rw [List.getElem?_drop] at hj
      rw [h1]; exact h4.cells _ u hj
    · cases hj
  · rw [List.getElem?_take] at hu
    split at hu
    · rw [List.getElem?_drop] at hu
      exact h2.at_ idx cs j x u he hj hu
    · cases hu
theorem A_load_rp (hw : wantedA n T ops o = true) (hd : o.dst = some d) (t : TypeId) (x : Operand) (ho : o.op = .load t x) {ds : TypeDesc} (hu : P.underlying t = some ds) (hds : (match ds with | .struct _ | .array _ _ => true | _ => false) = false)
    {i k' idx off : Nat} (hx : evA n T x = .rp i k' idx off) {E : TypeId} {s : Nat} {els : List (List Tr)} (hi : heap[i]? = some (.row k' E s els)) {cs : List Tr} (he : els[idx]? = some cs) {u : Tr} (hc : cs[off]? = some u) (k : AL P ops Q rest n (pu T d (.t u)) heap) : AL P ops Q (o :: rest) n T heap := by
  refine AL.val hw hd (fun e a w ρ Z Y hR => ?_) k
  have hv := hR.eval x
  rw [hx] at hv
  obtain ⟨us, h1, h2, h3⟩ := hR.ok.rep.rowcell hi he
  have hlt := get_lt hc
  rw [← h1] at hlt
  have hq := List.getElem?_eq_getElem hlt
  generalize hav : a.eval x = v at hv
  cases hv with
  | rp hk =>
  refine ⟨us[off], val_of (s := Instr.loadAt t (a.eval x)) (by unfold execOp; rw [ho]) ?_, .t (h3 off u _ hc hq)⟩
  rw [hav]
  exact run_load_one hu hds (h2 off _ hq)
theorem A_load_rp_agg (hw : wantedA n T ops o = true) (hd : o.dst = some d) (t : TypeId) (x : Operand) (ho : o.op = .load t x) {ds : TypeDesc} (hu : P.underlying t = some ds) (hds : (match ds with | .struct _ | .array _ _ => true | _ => false) = true)
    {z : Option Value} {size bytes : Nat} (hI : (P.info? t).map (fun i => (i.zero, i.size, i.bytes)) = some (z, size, bytes))
    {i k' idx off : Nat} (hx : evA n T x = .rp i k' idx off) {E : TypeId} {s : Nat} {els : List (List Tr)} (hi : heap[i]? = some (.row k' E s els)) {cs : List Tr} (he : els[idx]? = some cs) {us' : List AV} (hc : ((cs.drop off).take size).map .t = us') (hl : us'.length = size)
    (k : AL P ops Q rest n (pu T d (.agg us')) heap) : AL P ops Q (o :: rest) n T heap := by
  subst hc
  refine AL.val hw hd (fun e a w ρ Z Y hR => ?_) k
  have hv := hR.eval x
  rw [hx] at hv
  obtain ⟨us, h1, h2, h3⟩ := hR.ok.rep.rowcell hi he
  have hlen : ((us.drop off).take size).length = size := by
    rw [List.length_map, List.length_take, List.length_drop] at hl
    rw [List.length_take, List.length_drop]
    rw [← h1] at hl; exact hl
  have h4 : ∀ u ∈ us, u.oneCell' = true := fun u hu => by
    obtain ⟨j, hj⟩ := List.getElem?_of_mem hu
    have hlt := get_lt hj
    rw [h1] at hlt
    exact (h3 j _ u (List.getElem?_eq_getElem hlt) hj).one
  generalize hav : a.eval x = v at hv
  cases hv with
  | rp hk =>
  refine ⟨.agg ((us.drop off).take size).toArray, val_of (s := Instr.loadAt t (a.eval x)) (by unfold execOp; rw [ho]) ?_, .agg (by rw [hl, hlen]) (fun u hu => h4 u (List.mem_of_mem_drop (List.mem_of_mem_take hu))) (fun j x u hj hu => ?_)⟩
  · rw [hav]
    refine run_load_agg hu hds hI hlen fun j u hj => ?_
    rw [add_add, Nat.add_assoc]
    rw [List.getElem?_take] at hj
    split at hj
    · rw [List.getElem?_drop] at hj; exact h2 _ u hj
    · cases hj
  · rw [List.getElem?_map] at hj
    rw [List.getElem?_take] at hj hu
    split at hu
    · rename_i hlt
      rw [if_pos hlt, List.getElem?_drop] at hj
      rw [List.getElem?_drop] at hu
      cases hc : cs[off + j]? with
      | none => rw [hc] at hj; cases hj
      | some y => rw [hc] at hj; cases hj; exact .t (h3 _ y u hc hu)
    · cases hu
theorem ro_open {Kn : Nat → Nat → Prop} {w : World} {ρ : Rho} {Z Y : Nat → Prop} (hzy : ∀ b, Z b → Y b) {x : AV} {els : List (List Tr)} {v : Value} (hx : x = .ln els ∨ x = .t (.lst els)) (hv : Val Kn ρ w Z Y x v) :
    ∃ a c s xs, v = .slice a els.length c ∧ Rs w s a els.length c xs ∧ (xs ≠ [] → Y (adr a).block) ∧ Elems (Frz w Z) s els xs := by
  rcases hx with rfl | rfl
  · cases hv with
    | ln hr hz hn he => subst hn; exact ⟨_, _, _, _, rfl, hr, hz, he⟩
  · cases hv with
    | t h =>
      obtain ⟨a, c, s, xs, h1, h2, h3, h4⟩ := h.open
      exact ⟨a, c, s, xs, h1, h2, fun hne => hzy _ (h3 hne), h4⟩
theorem A_idx (hw : wantedA n T ops o = true) (hd : o.dst = some d) (t : TypeId) (x ix : Operand) (ho : o.op = .indexAddr t x ix) {e : TypeId} (ht : P.underlying t = some (.slice e)) {z : Option Value} {size bytes : Nat} (hI : (P.info? e).map (fun i => (i.zero, i.size, i.bytes)) = some (z, size, bytes)) (hsz : size ≠ 0)
    {els : List (List Tr)} (hx : evA n T x = .ln els ∨ evA n T x = .t (.lst els)) {kd : IntKind} {I : Int} (hix : evA n T ix = .t (.v (.int kd I))) (h0I : 0 ≤ I) (J : Nat) (hJ : I.toNat = J) {cs : List Tr} (he : els[J]? = some cs) (hs : cs.length = size)
    {cs' : List AV} (hc : cs.map .t = cs') (k : AL P ops Q rest n (pu T d (.lp cs')) heap) : AL P ops Q (o :: rest) n T heap := by
  subst hc
  obtain rfl : I = (J : Int) := by omega
  refine AL.val hw hd (fun en a w ρ Z Y hR => ?_) k
  obtain ⟨a', c, s, xs, h1, h2, h3, h4⟩ := ro_open hR.ok.rep.zy hx (hR.eval x)
  have hvi := hR.eval ix
  rw [hix] at hvi
  generalize hai : a.eval ix = vi at hvi
  cases hvi with
  | t h => cases h with
    | v h =>
    have hss : s = size := by rw [← hs]; exact (h4.each cs (List.mem_of_getElem? he)).symm
    subst hss
    have hlt := get_lt he
    have hle : J * s + s ≤ xs.length := by rw [h4.len, ← Nat.succ_mul]; exact Nat.mul_le_mul_right _ hlt
    have hY := h3 (fun e => by rw [e] at hle; simp at hle; omega)
    refine ⟨_, val_of (s := Instr.indexAt t (a.eval x) (a.eval ix)) (by unfold execOp; rw [ho]) (by rw [h1, hai]; exact run_idx ht hI a' els.length c kd J (fun e => (h2.none e).1) hlt), .lp (us := (xs.drop (J * s)).take s) (by simp; omega) (fun u hu => ?_) (fun j u hj => ?_) (fun j y u hj hu => ?_)⟩
    · exact h4.one u (List.mem_of_mem_drop (List.mem_of_mem_take hu))
    · refine ⟨by rw [add_block]; exact hY, ?_⟩
      rw [add_add]
      rw [List.getElem?_take] at hj
      split at hj
      · rw [List.getElem?_drop] at hj; exact h2.cells _ u hj
      · cases hj
    · rw [List.getElem?_map] at hj
      rw [List.getElem?_take] at hu
      split at hu
      · rw [List.getElem?_drop] at hu
        cases hcj : cs[j]? with
        | none => rw [hcj] at hj; cases hj
        | some q => rw [hcj] at hj; cases hj; exact .t (h4.at_ J cs j q u he hcj hu)
      · cases hu
theorem A_idx_sl (hw : wantedA n T ops o = true) (hd : o.dst = some d) (t : TypeId) (x ix : Operand) (ho : o.op = .indexAddr t x ix) {e : TypeId} (ht : P.underlying t = some (.slice e)) {z : Option Value} {size bytes : Nat} (hI : (P.info? e).map (fun i => (i.zero, i.size, i.bytes)) = some (z, size, bytes))
    {i k' m : Nat} (hx : evA n T x = .sl i k' m) {E : TypeId} {els : List (List Tr)} (hi : heap[i]? = some (.row k' E size els)) (hm : m ≤ els.length) {kd : IntKind} {I : Int} (hix : evA n T ix = .t (.v (.int kd I))) (h0I : 0 ≤ I) (J : Nat) (hJ : I.toNat = J) (hlt : J < m)
    (k : AL P ops Q rest n (pu T d (.rp i k' J 0)) heap) : AL P ops Q (o :: rest) n T heap := by
  obtain rfl : I = (J : Int) := by omega
  refine AL.val hw hd (fun en a w ρ Z Y hR => ?_) k
  have hv := hR.eval x
  rw [hx] at hv
  have hvi := hR.eval ix
  rw [hix] at hvi
  obtain ⟨h1, xs, h2, h3, h4⟩ := hR.ok.rep.row hi
  generalize hai : a.eval ix = vi at hvi
  generalize hax : a.eval x = vx at hv
  cases hv with
  | sl hk hcc _ =>
  cases hvi with
  | t h => cases h with
    | v h =>
    refine ⟨_, val_of (s := Instr.indexAt t (a.eval x) (a.eval ix)) (by unfold execOp; rw [ho]) (by rw [hax, hai]; exact run_idx ht hI _ m _ kd J (fun e => by have := (h4.none e).1; omega) hlt), ?_⟩
    have := Val.rp (ρ := ρ) (w := w) (Z := Z) (Y := Y) (idx := J) (off := 0) hk
    rw [h1, Nat.add_zero] at this
    exact this
theorem A_idx_sub (hw : wantedA n T ops o = true) (hd : o.dst = some d) (t : TypeId) (x ix : Operand) (ho : o.op = .indexAddr t x ix) {e : TypeId} (ht : P.underlying t = some (.slice e)) {z : Option Value} {size bytes : Nat} (hI : (P.info? e).map (fun i => (i.zero, i.size, i.bytes)) = some (z, size, bytes))
    {i k' off m : Nat} (hx : evA n T x = .sub i k' off m) {E : TypeId} {els : List (List Tr)} (hi : heap[i]? = some (.row k' E size els)) {kd : IntKind} {I : Int} (hix : evA n T ix = .t (.v (.int kd I))) (h0I : 0 ≤ I) (J : Nat) (hJ : I.toNat = J) (hlt : J < m)
    (k : AL P ops Q rest n (pu T d (.rp i k' (off + J) 0)) heap) : AL P ops Q (o :: rest) n T heap := by
  obtain rfl : I = (J : Int) := by omega
  refine AL.val hw hd (fun en a w ρ Z Y hR => ?_) k
  have hv := hR.eval x
  rw [hx] at hv
  have hvi := hR.eval ix
  rw [hix] at hvi
  obtain ⟨h1, xs, h2, h3, h4⟩ := hR.ok.rep.row hi
  generalize hai : a.eval ix = vi at hvi
  generalize hax : a.eval x = vx at hv
  cases hv with
  | @sub _ _ _ _ a' c' hk hn hm h0 ha =>
  cases hvi with
  | t h => cases h with
    | v h =>
    have ha' := ha (by omega)
    subst ha'
    refine ⟨_, val_of (s := Instr.indexAt t (a.eval x) (a.eval ix)) (by unfold execOp; rw [ho]) (by rw [hax, hai]; exact run_idx ht hI _ m _ kd J (fun e => by cases e) hlt), ?_⟩
    have := Val.rp (ρ := ρ) (w := w) (Z := Z) (Y := Y) (idx := off + J) (off := 0) hk
    show Val _ _ _ _ _ _ (.pointer (some (Addr.add ((adr (ρ i k').a).add _) _)))
    rw [add_add]
    rw [h1, Nat.add_zero, Nat.add_mul] at this
    rw [h1]
    exact this
theorem A_store (hw : wantedA n T ops o = true) (hd : o.dst = none) (t : TypeId) (x y : Operand) (ho : o.op = .store t x y) {z : Option Value} {size bytes : Nat} (hI : (P.info? t).map (fun i => (i.zero, i.size, i.bytes)) = some (z, size, bytes))
    {i off : Nat} (hx : evA n T x = .ptr i off) {t' : TypeId} {cs : List AV} (hi : heap[i]? = some (.box t' cs)) {us : List AV} (hy : (evA n T y).flat = some us) (hl : us.length = size) (hf : off + us.length ≤ cs.length)
    {cs' : List AV} (hc : cs.take off ++ us ++ cs.drop (off + us.length) = cs') {heap' : List Ob} (hh : heap.set i (.box t' cs') = heap') (k : AL P ops Q rest n T heap') : AL P ops Q (o :: rest) n T heap := by
  subst hc hh
  refine AL.unit hw hd (fun e a w ρ Z Y hR => ?_) k
  have hv := hR.eval x
  rw [hx] at hv
  obtain ⟨b, vs, h1, h1', h2, h3, h4⟩ := hR.ok.rep.box hi hv
  obtain ⟨us', g1, g2, g3⟩ := (hR.eval y).flat hy
  obtain ⟨inf, hin, _, hsz, _⟩ := info_of hI
  have hs : (sizeOf t).run P w = .ok size w := run_size hI
  have hlen := g2.len
  have hlen' := h3.len
  obtain ⟨w', r1, r2, r3⟩ := run_store_box hs g1 (by omega) g3 (b := b) (off := off) h2 (by omega)
  have hblk : (Ob.box t' cs).blk ρ i = some b := by simp [Ob.blk, h1']
  have hsame : ∀ b', b' < w.heap.size → (Ob.box t' cs).blk ρ i ≠ some b' → w'.heap[b']? = w.heap[b']? := fun b' hb' hne => r3.block b' hb' (fun e => hne (by rw [hblk, e]))
  have hm : ∀ x v, Val (Kn heap) ρ w Z Y x v → Val (Kn (heap.set i (.box t' (cs.take off ++ us ++ cs.drop (off + us.length))))) ρ w' Z Y x v := fun x v hv =>
    hR.ok.rep.val (fun j k hj => ⟨hj.set hi (by exact Nat.le_refl _), rfl⟩) (fun _ h => h) (fun b' hb' => ⟨hb', hsame b' (hR.ok.rep.ylt b' hb') (hR.ok.rep.notin hi hb')⟩) hv
  refine ⟨w', ρ, Z, Y, ?_, hR.ok.turn hi (Nat.le_refl _) (fun _ _ _ => rfl) ⟨r3.os, r3.tape, r3.output⟩ r3.size hsame ⟨b, _, h1', r2, ⟨?_, fun j x u hj hu => ?_⟩, fun u hu => ?_⟩ (fun b' hb' => .inl hb'), hm⟩
  · unfold execOp
    simp only [ho, h1, Sem.run_bind, r1, Result.andThen_ok, Sem.run_pure]
  · simp only [List.length_append, List.length_take, List.length_drop]; omega
  · refine hm x u ?_
    have e1 : (cs.take off).length = off := by rw [List.length_take]; omega
    have e2 : (vs.take off).length = off := by rw [List.length_take]; omega
    by_cases c1 : j < off
    · rw [List.append_assoc, List.getElem?_append_left (by omega), List.getElem?_take, if_pos c1] at hj hu
      exact h3.at_ j x u hj hu
    · by_cases c2 : j < off + us.length
      · rw [List.append_assoc, List.getElem?_append_right (by omega), List.getElem?_append_left (by omega)] at hj hu
        rw [e1] at hj
        rw [e2] at hu
        exact g2.at_ _ x u hj hu
      · rw [List.getElem?_append_right (by simp only [List.length_append]; omega), List.length_append, List.getElem?_drop] at hj hu
        rw [e1] at hj
        rw [e2] at hu
        rw [← hlen] at hu
        exact h3.at_ _ x u hj hu
  · rcases List.mem_append.1 hu with hu | hu
    · rcases List.mem_append.1 hu with hu | hu
      · exact h4 u (List.mem_of_mem_take hu)
      · exact g3 u hu
    · exact h4 u (List.mem_of_mem_drop hu)
theorem A_store_rp (hw : wantedA n T ops o = true) (hd : o.dst = none) (t : TypeId) (x y : Operand) (ho : o.op = .store t x y) {z : Option Value} {tsize bytes : Nat} (hI : (P.info? t).map (fun i => (i.zero, i.size, i.bytes)) = some (z, tsize, bytes)) (ht0 : tsize ≠ 0)
    {i k' idx off : Nat} (hx : evA n T x = .rp i k' idx off) {E : TypeId} {s : Nat} {els : List (List Tr)} (hi : heap[i]? = some (.row k' E s els)) {cs : List Tr} (he : els[idx]? = some cs) {us : List AV} (hy : (evA n T y).flat = some us) (hl : us.length = tsize) {ts : List Tr} (hts : trsA us = some ts) (hf : off + ts.length ≤ s)
    {els' : List (List Tr)} (hc : els.set idx (cs.take off ++ ts ++ cs.drop (off + ts.length)) = els') {heap' : List Ob} (hh : heap.set i (.row k' E s els') = heap') (k : AL P ops Q rest n T heap') : AL P ops Q (o :: rest) n T heap := by
  subst hc hh
  refine AL.unit hw hd (fun e a w ρ Z Y hR => ?_) k
  have hv := hR.eval x
  rw [hx] at hv
  obtain ⟨h1, xs, h2, h3, h4⟩ := hR.ok.rep.row hi
  obtain ⟨us', g1, g2, g3⟩ := (hR.eval y).flat hy
  obtain ⟨q1, q2⟩ := trsA_open hts g2
  have hs : (sizeOf t).run P w = .ok tsize w := run_size hI
  have hlen := g2.len
  have hlt := get_lt he
  have hle : idx * s + s ≤ els.length * s := by rw [← Nat.succ_mul]; exact Nat.mul_le_mul_right _ hlt
  generalize hax : a.eval x = vx at hv
  cases hv with
  | rp hk =>
  obtain ⟨w', r1, r2, r3⟩ := run_put_any hs g1 (by omega) g3 (m := idx * s + off) h3 (by omega) (fun e => by rw [e] at hlen; simp only [List.length_nil] at hlen; omega)
  have hblk : (Ob.row k' E s els).blk ρ i = (if (ρ i k').c = 0 then none else (ρ i k').a.map (·.block)) := rfl
  have hsame : ∀ b', b' < w.heap.size → (Ob.row k' E s els).blk ρ i ≠ some b' → w'.heap[b']? = w.heap[b']? := fun b' hb' hne => r3.block b' hb' (fun e => hne (by rw [hblk, e]))
  have hz : ∀ b, Z b → Z b ∧ w'.heap[b]? = w.heap[b]? := fun b hb => ⟨hb, hsame b (hR.ok.rep.ylt b (hR.ok.rep.zy b hb)) (hR.ok.rep.notin hi (hR.ok.rep.zy b hb))⟩
  refine ⟨w', ρ, Z, Y, ?_, hR.ok.turn hi (Nat.le_refl _) (fun _ _ _ => rfl) ⟨r3.os, r3.tape, r3.output⟩ r3.size hsame ⟨h1, _, ((h2.set he q1 hf q2).mono fun _ _ h => h.mono hz), by rw [List.length_set]; exact r2⟩ (fun b' hb' => .inl hb'), fun x v hv => ?_⟩
  · unfold execOp
    simp only [ho, hax, h1, Sem.run_bind, r1, Result.andThen_ok, Sem.run_pure]
  · exact hR.ok.rep.val (fun j k hj => ⟨hj.set hi (by exact Nat.le_refl _), rfl⟩) (fun _ h => h) (fun b' hb' => ⟨hb', hsame b' (hR.ok.rep.ylt b' hb') (hR.ok.rep.notin hi hb')⟩) hv
theorem A_len (hw : wantedA n T ops o = true) (hd : o.dst = some d) (t : TypeId) (x : Operand) (ho : o.op = .call { callee := .builtin .len, args := #[x], argTypes := #[t] }) {e : TypeId} (ht : P.underlying t = some (.slice e)) {m : Nat} (hx : lenA (evA n T x) = some m)
    (k : AL P ops Q rest n (pu T d (.t (.v (.int .i64 (m : Int))))) heap) : AL P ops Q (o :: rest) n T heap := by
  refine AL.val hw hd (fun en a w ρ Z Y hR => ?_) k
  obtain ⟨a', c, h1⟩ := lenA_open hx (hR.eval x)
  refine ⟨.int .i64 m, ?_, .t (.v rfl)⟩
  unfold execOp
  simp only [ho, resolve, invoke, builtin, Sem.run_bind, Sem.run_pure, Result.andThen_ok, List.map_toArray, List.map_cons, List.map_nil, h1]
  simp [Builtin.len_, Result.andThen, run_underlying ht, goInt]
end
end Go.Proofs.Ytmljglphegeilaa

namespace Go.Proofs.Ytmljglphegeilaa
set_option linter.unusedVariables false
set_option linter.unusedSimpArgs false
set_option linter.unnecessarySimpa false
open Go.RowKit
theorem holds_take {B : Nat} {w : World} {a : Option Addr} {n c m : Nat} {E : TypeId} {size : Nat} {xs : List Value} (h : (Res.row a n c E size xs).holds B w) (hm : m ≤ n) : (Res.row a m c E size (xs.take (m * size))).holds B w := by
  have hle : m * size ≤ n * size := Nat.mul_le_mul_right _ hm
  rcases h with ⟨h1, h2, h3⟩ | ⟨h1, h2, h3⟩
  · exact .inl ⟨h1, by omega, by rw [h3]; simp⟩
  · refine .inr ⟨h1, by rw [List.length_take]; omega, ?_⟩
    rcases h3 with ⟨h3, h4⟩ | ⟨g, cap, cur, e, h4, h5, h6, h7, h8, h9⟩
    · simp only [Value.slice.injEq] at h3; omega
    · simp only [Value.slice.injEq] at e
      obtain ⟨rfl, _, rfl⟩ := e
      exact .inr ⟨g, c, cur, rfl, h4, h5, by omega, h7, h8, by rw [← h9, List.take_take, Nat.min_eq_left hle]⟩
section
variable {P : Program} {ops : Array Oper} {Q : QS} {rest : List Oper} {o : Oper} {n : Fr} {T : Nat → AV} {heap : List Ob} {d : Nat}
theorem A_append (hw : wantedA n T ops o = true) (hd : o.dst = some d) (s x : Operand) (t : TypeId) (ho : o.op = .call { callee := .builtin .append, args := #[s, x], argTypes := #[t, t] })
    {e : TypeId} (ht : P.underlying t = some (.slice e)) {z : Value} {size bytes : Nat} (hI : (P.info? e).map (fun i => (i.zero, i.size, i.bytes)) = some (some z, size, bytes)) (hzs : z.cells.size = size)
    {i k' m : Nat} (hs : evA n T s = .sl i k' m) {els : List (List Tr)} (hi : heap[i]? = some (.row k' e size els)) (hm : m ≤ els.length) {news : List (List Tr)} (hx : Rd heap size (evA n T x) news) (b1 : m + news.length ≤ maxLen) (b2 : (m + news.length) * bytes ≤ 140737488355328)
    {els' : List (List Tr)} (he : els.take m ++ news = els') {heap' : List Ob} (hh : heap.set i (.row (k' + 1) e size els') = heap') {m' : Nat} (hm' : m + news.length = m') (k : AL P ops Q rest n (pu T d (.sl i (k' + 1) m')) heap') : AL P ops Q (o :: rest) n T heap := by
  subst he hh hm'
  refine AL.act hw hd (fun en a w ρ Z Y hR => ?_) k
  obtain ⟨inf, hin, hz, hsz, hby⟩ := info_of hI
  subst hsz hby
  have hrep := hR.ok.rep
  obtain ⟨h1, xs, h2, h3, h4⟩ := hrep.row hi
  obtain ⟨xa, xc, ys, g1, g2, g3⟩ := hx.open hrep (hR.eval x)
  have hv := hR.eval s
  rw [hs] at hv
  generalize hax : a.eval s = vx at hv
  cases hv with
  | sl hk hcc _ =>
  obtain ⟨a', c', w', r1, r2, r3, r4⟩ := run_append_any (P := P) t o.type ht hin hz hzs (holds_take h3 hm) (rs_take h4 hm) xa news.length xc g2 g3.one b1 b2
  let ρ' : Rho := fun j q => if j = i ∧ q = k' + 1 then ⟨a', c', inf.size⟩ else ρ j q
  have hnew : ρ' i (k' + 1) = ⟨a', c', inf.size⟩ := if_pos ⟨rfl, rfl⟩
  have hρ : ∀ j q, Kn heap j q → ρ' j q = ρ j q := fun j q ⟨p, hp, hq⟩ => if_neg fun ⟨e1, e2⟩ => by
    subst e1; rw [hi] at hp; cases hp; simp [Ob.lim] at hq; omega
  have hsame : ∀ b', b' < w.heap.size → (Ob.row k' e inf.size els).blk ρ i ≠ some b' → w'.heap[b']? = w.heap[b']? := fun b' hb' hne => r3.block b' hb' (fun e => hne e.symm)
  have hzz : ∀ b, Z b → Z b ∧ w'.heap[b]? = w.heap[b]? := fun b hb => ⟨hb, hsame b (hrep.ylt b (hrep.zy b hb)) (hrep.notin hi (hrep.zy b hb))⟩
  have hm : ∀ x v, Val (Kn heap) ρ w Z Y x v → Val (Kn (heap.set i (.row (k' + 1) e inf.size (els.take m ++ news)))) ρ' w' Z Y x v := fun x v hv =>
    hrep.val (fun j q hj => ⟨hj.set hi (by exact Nat.le_succ _), hρ j q hj⟩) (fun _ h => h) (fun b' hb' => ⟨hb', hsame b' (hrep.ylt b' hb') (hrep.notin hi hb')⟩) hv
  have hlen : (els.take m ++ news).length = m + news.length := by rw [List.length_append, List.length_take]; omega
  have hel := ((h2.take m).append g3).mono fun _ _ h => Frz.mono hzz h
  have hres : (Res.row (ρ' i (k' + 1)).a (els.take m ++ news).length (ρ' i (k' + 1)).c e inf.size (xs.take (m * inf.size) ++ ys)).holds 0 w' := by rw [hnew, hlen]; exact r2
  have hcap := (rs_of_holds hres).cap
  rw [hlen] at hcap
  refine ⟨.slice a' (m + news.length) c', w', ρ', Z, Y, ?_, hR.ok.turn hi (by exact Nat.le_succ _) hρ ⟨r3.os, r3.tape, r3.output⟩ r3.size hsame ⟨by rw [hnew], _, hel, hres⟩ (fun b hb => ?_), hm, ?_⟩
  · unfold execOp
    simp only [ho, resolve, invoke, builtin, Sem.run_bind, Sem.run_pure, Result.andThen_ok, List.map_toArray, List.map_cons, List.map_nil, hax, g1, r1]
  · refine r4 b ?_
    simp only [Ob.blk, hnew] at hb
    exact hb
  · have := Val.sl (Kn := Kn (heap.set i (.row (k' + 1) e inf.size (els.take m ++ news)))) (ρ := ρ') (w := w') (Z := Z) (Y := Y) (i := i) (k := k' + 1) (n := m + news.length) ⟨_, by rw [List.getElem?_set, if_pos rfl, if_pos (get_lt hi)], Nat.le_refl _⟩ hcap (fun e => ((rs_of_holds hres).none e).2)
    rw [hnew] at this
    exact this
theorem A_append_nl (hw : wantedA n T ops o = true) (hd : o.dst = some d) (s x : Operand) (t : TypeId) (ho : o.op = .call { callee := .builtin .append, args := #[s, x], argTypes := #[t, t] })
    {e : TypeId} (ht : P.underlying t = some (.slice e)) {z : Value} {size bytes : Nat} (hI : (P.info? e).map (fun i => (i.zero, i.size, i.bytes)) = some (some z, size, bytes)) (hzs : z.cells.size = size)
    (hs : evA n T s = .nl) {news : List (List Tr)} (hx : Rd heap size (evA n T x) news) (b1 : news.length ≤ maxLen) (b2 : news.length * bytes ≤ 140737488355328) {els' : List (List Tr)} (he : news = els')
    {heap' : List Ob} {N : Nat} (hat : AtL heap N [.row 0 e size els'] heap') {m' : Nat} (hm' : news.length = m') (k : AL P ops Q rest n (pu T d (.sl N 0 m')) heap') : AL P ops Q (o :: rest) n T heap := by
  subst hm' he
  refine AL.act hw hd (fun en a w ρ Z Y hR => ?_) k
  obtain ⟨inf, hin, hz, hsz, hby⟩ := info_of hI
  subst hsz hby
  have hrep := hR.ok.rep
  obtain ⟨xa, xc, ys, g1, g2, g3⟩ := hx.open hrep (hR.eval x)
  have hv := hR.eval s
  rw [hs] at hv
  generalize hax : a.eval s = vx at hv
  cases hv with
  | nl sa =>
  obtain ⟨a', c', w', r1, r2, r3, r4⟩ := run_append_any (P := P) t o.type ht hin hz hzs (sa := sa) (n := 0) (c := 0) (xs := []) (.inl ⟨rfl, rfl, rfl⟩) ⟨Nat.le_refl _, Nat.zero_le _, fun _ => ⟨rfl, rfl⟩, by simp, fun j u h => by simp at h⟩ xa news.length xc g2 g3.one (by omega) (by rw [Nat.zero_add]; exact b2)
  rw [Nat.zero_add] at r1 r2 r4
  rw [List.nil_append] at r2 r4
  have hsame : ∀ b, b < w.heap.size → w'.heap[b]? = w.heap[b]? := fun b hb => r3.block b hb (by simp)
  have hzz : ∀ b, Z b → Z b ∧ w'.heap[b]? = w.heap[b]? := fun b hb => ⟨hb, hsame b (hrep.ylt b (hrep.zy b hb))⟩
  have hcap := (rs_of_holds r2).cap
  obtain ⟨ρ', k1, k2, k3, k4⟩ := hR.ok.push1 (o := .row 0 e inf.size news) hat (w' := w') (pl := ⟨a', c', inf.size⟩) ⟨r3.os, r3.tape, r3.output⟩ r3.size hsame
    (fun ρ' hN hρ => ⟨by rw [hN], ys, g3.mono fun _ _ h => Frz.mono hzz h, by rw [hN]; exact r2⟩)
    (fun b _ hb => by
      rcases r4 b (by simpa [Ob.blk, Res.blk] using hb) with h | h
      · simp at h
      · exact h)
  refine ⟨.slice a' news.length c', w', ρ', Z, Y, ?_, k1, k2, ?_⟩
  · unfold execOp
    simp only [ho, resolve, invoke, builtin, Sem.run_bind, Sem.run_pure, Result.andThen_ok, List.map_toArray, List.map_cons, List.map_nil, hax, g1, r1]
  · have := Val.sl (Kn := Kn heap') (ρ := ρ') (w := w') (Z := Z) (Y := Y) (i := N) (k := 0) (n := news.length) ⟨_, hat.one, Nat.le_refl _⟩ (by rw [k3]; exact hcap) (by rw [k3]; exact fun e => ((rs_of_holds r2).none e).2)
    rw [k3] at this
    exact this
theorem A_make (hw : wantedA n T ops o = true) (hd : o.dst = some d) (t : TypeId) (l c : Operand) (ho : o.op = .makeSlice t l c) {e : TypeId} (ht : P.underlying t = some (.slice e)) {z : Value} {size bytes : Nat} (hI : (P.info? e).map (fun i => (i.zero, i.size, i.bytes)) = some (some z, size, bytes)) (hzs : z.cells.size = size)
    {zs : List Tr} (hz : ((ofConst z).flat.bind trsA) = some zs) {kl kc : IntKind} {L C : Int} (hl : evA n T l = .t (.v (.int kl L))) (hc : evA n T c = .t (.v (.int kc C))) (m : Nat) (hL : L = (m : Int)) (hC : C = (m : Int)) (b2 : bytes * m ≤ 281474976710656) (b3 : m ≤ maxLen) {els' : List (List Tr)} (he : List.replicate m zs = els')
    {heap' : List Ob} {N : Nat} (hat : AtL heap N [.row 0 e size els'] heap') (k : AL P ops Q rest n (pu T d (.sl N 0 m)) heap') : AL P ops Q (o :: rest) n T heap := by
  subst hL hC he
  refine AL.act hw hd (fun en a w ρ Z Y hR => ?_) k
  obtain ⟨inf, hin, hz', hsz, hby⟩ := info_of hI
  subst hsz hby
  have hrep := hR.ok.rep
  have hvl := hR.eval l
  rw [hl] at hvl
  have hvc := hR.eval c
  rw [hc] at hvc
  generalize hal : a.eval l = vl at hvl
  generalize hac : a.eval c = vc at hvc
  cases hvl with
  | t h => cases h with
    | v h => cases hvc with
      | t h' => cases h' with
        | v h' =>
        obtain ⟨w', r1, r2, r3⟩ := run_make_full (P := P) w w.heap.size t e inf z inf.size ht hin hz' rfl kl kc m b2 b3 (Nat.le_refl _)
        have hsame : ∀ b, b < w.heap.size → w'.heap[b]? = w.heap[b]? := fun b hb => r3.block b hb (by simp)
        have hzz : ∀ b, Z b → Z b ∧ w'.heap[b]? = w.heap[b]? := fun b hb => ⟨hb, hsame b (hrep.ylt b (hrep.zy b hb))⟩
        cases hfl : (ofConst z).flat with
        | none => rw [hfl] at hz; cases hz
        | some cs =>
        rw [hfl] at hz
        obtain ⟨us, u1, u2, u3⟩ := (val_ofConst (Kn := Kn heap) (ρ := ρ) (w := w') (Z := Z) (Y := Y) z).flat hfl
        obtain ⟨q1, q2⟩ := trsA_open hz u2
        have hus : us.length = inf.size := by rw [← hzs, u1]; simp
        have hflat : (madeCells z.cells (m * inf.size)).toList = (List.replicate m us).flatten := by
          have := made_flat (α := Unit) (enc := fun _ => us) (size := inf.size) (z := z.cells) (x := ()) (by rw [u1]) hus m
          rw [this, List.flatMap_def, List.map_replicate]
        have hres : (Res.row (some ⟨w.heap.size, 0, none⟩) m m e inf.size ((List.replicate m us).flatten)).holds 0 w' := by
          rw [← hflat]
          by_cases h0 : m = 0
          · exact .inl ⟨h0, h0, List.eq_nil_of_length_eq_zero (by rw [r2.1, h0]; simp)⟩
          · refine .inr ⟨by omega, r2.1, ?_⟩
            rcases r2.2 with h1 | ⟨g, cap, cur, e1, _, h5, h6, h7, h8, h9⟩
            · exact .inl h1
            · exact .inr ⟨g, cap, cur, e1, Nat.zero_le _, h5, h6, h7, h8, h9⟩
        obtain ⟨ρ', k1, k2, k3, k4⟩ := hR.ok.push1 (o := .row 0 e inf.size (List.replicate m zs)) hat (w' := w') (pl := ⟨some ⟨w.heap.size, 0, none⟩, m, inf.size⟩) ⟨r3.os, r3.tape, r3.output⟩ r3.size hsame
          (fun ρ' hN hρ => ⟨by rw [hN], _, Elems.replicate (by rw [q1, hus]) hus q2 m, by rw [hN, List.length_replicate]; exact hres⟩)
          (fun b hb hb' => by
            simp at hb; subst hb
            refine ⟨Nat.le_refl _, ?_⟩
            simp only [Ob.blk] at hb'
            split at hb'
            · cases hb'
            · exact (r2.lt w.heap.size rfl).2)
        refine ⟨.slice (some ⟨w.heap.size, 0, none⟩) m m, w', ρ', Z, Y, ?_, k1, k2, ?_⟩
        · unfold execOp
          simp only [ho, hal, hac, Sem.run_bind, r1, Result.andThen_ok, Sem.run_pure]
        · have := Val.sl (Kn := Kn heap') (ρ := ρ') (w := w') (Z := Z) (Y := Y) (i := N) (k := 0) (n := m) ⟨_, hat.one, Nat.le_refl _⟩ (by rw [k3]; exact Nat.le_refl _) (by rw [k3]; intro e; cases e)
          rw [k3] at this
          exact this
end
end Go.Proofs.Ytmljglphegeilaa

