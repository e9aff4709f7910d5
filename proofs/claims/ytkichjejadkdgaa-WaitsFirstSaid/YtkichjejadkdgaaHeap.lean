/- What a call owns of memory, as a list of resources: boxes (all cells known) and rows (a slice's own row; its values known, its spare room not). Old memory is as it was. No program in sight. -/
import Derived.Below
import Derived.OwnWalk
import Derived.ArgAppend
namespace Go.Proofs.Ytkichjejadkdgaa
set_option linter.unusedVariables false
set_option linter.unusedSimpArgs false
set_option linter.unnecessarySimpa false
open Go.RowKit

/-- the address of a slice's first cell -/
def adr (a : Option Addr) : Addr := a.getD ⟨0, 0, none⟩
/-- A row that is read: n elements of 'size' cells, which are xs; c: its capacity. -/
structure Rs (w : World) (size : Nat) (a : Option Addr) (n c : Nat) (xs : List Value) : Prop where
  cap : n ≤ c
  most : c ≤ maxLen
  none : a = .none → n = 0 ∧ c = 0
  len : xs.length = n * size
  cells : ∀ j u, xs[j]? = some u → w.cell? ((adr a).add j) = some u

theorem cell_lt {w : World} {a : Addr} {u : Value} (h : w.cell? a = some u) : a.block < w.heap.size := World.block_lt_of_cell? w a h
theorem add_block (a : Addr) (n : Nat) : (a.add n).block = a.block := by unfold Addr.add; split <;> rfl
theorem Rs.keep {w w' : World} {size : Nat} {a : Option Addr} {n c : Nat} {xs : List Value} (h : Rs w size a n c xs) (hk : xs ≠ [] → w'.heap[(adr a).block]? = w.heap[(adr a).block]?) : Rs w' size a n c xs := by
  refine ⟨h.cap, h.most, h.none, h.len, fun j u hj => ?_⟩
  have hne : xs ≠ [] := fun e => by rw [e] at hj; simp at hj
  rw [← h.cells j u hj]
  exact World.cell?_of_block (by rw [add_block]; exact hk hne)
theorem Rs.lt {w : World} {size : Nat} {a : Option Addr} {n c : Nat} {xs : List Value} (h : Rs w size a n c xs) (hne : xs ≠ []) : (adr a).block < w.heap.size := by
  match xs, hne with
  | u :: us, _ => have := cell_lt (h.cells 0 u rfl); rwa [add_block] at this
theorem Rs.below {B : Nat} {w w' : World} {size : Nat} {a : Option Addr} {n c : Nat} {xs : List Value} (h : Rs w size a n c xs) (hb : Below B w w') (hB : w.heap.size ≤ B) : Rs w' size a n c xs :=
  h.keep fun hne => hb.block _ (Nat.lt_of_lt_of_le (h.lt hne) hB)
theorem Rs.nil (w : World) (size : Nat) : Rs w size .none 0 0 [] := ⟨Nat.le_refl _, Nat.zero_le _, fun _ => ⟨rfl, rfl⟩, by simp, fun j u h => by simp at h⟩

inductive Res where
  | box (b : Nat) (T : TypeId) (cs : List Value)
  | row (a : Option Addr) (n c : Nat) (E : TypeId) (size : Nat) (xs : List Value)
def Res.blk : Res → Option Nat
  | .box b _ _ => some b
  | .row a _ c _ _ _ => if c = 0 then none else a.map (·.block)
def Res.holds (B : Nat) (w : World) : Res → Prop
  | .box b T cs => w.heap[b]? = some (.cells cs.toArray T (0, 0))
  | .row a n c E size xs => (c = 0 ∧ n = 0 ∧ xs = []) ∨ (0 < c ∧ w.ownsRow B E size (.slice a n c) n xs)
theorem ownBlock_slice (a : Option Addr) (n c : Nat) : (Value.slice a n c).ownBlock = a.map (·.block) := by cases a <;> rfl
theorem holds_keep {B B' : Nat} {w w' : World} {r : Res} (h : r.holds B w) (hb : ∀ k, r.blk = some k → w'.heap[k]? = w.heap[k]? ∧ B' ≤ k) : r.holds B' w' := by
  cases r with
  | box b T cs =>
    have := (hb b rfl).1
    show w'.heap[b]? = _
    rw [this]; exact h
  | row a n c E size xs =>
    rcases h with h | ⟨hc, h1, h2⟩
    · exact .inl h
    refine .inr ⟨hc, h1, ?_⟩
    rcases h2 with h2 | ⟨g, cap, cur, hv, hg, hh, r⟩
    · exact .inl h2
    · simp only [Value.slice.injEq] at hv
      obtain ⟨rfl, _, rfl⟩ := hv
      have hk := hb g (by simp [Res.blk]; omega)
      exact .inr ⟨g, c, cur, rfl, hk.2, by rw [hk.1]; exact hh, r⟩

/-- What a call owns: all in the blocks from lo to hi; what is read only (ro) hangs on blocks of its own there (Z). -/
structure Hp (lo hi : Nat) (w : World) (own : List Res) (ro : List (World → Prop)) : Prop where
  ex : ∃ Z : Nat → Prop, (∀ k, Z k → lo ≤ k ∧ k < hi) ∧ (∀ r ∈ own, r.holds lo w ∧ ∀ k, r.blk = some k → lo ≤ k ∧ k < hi ∧ ¬ Z k) ∧
    own.Pairwise (fun r s => ∀ k, r.blk = some k → s.blk ≠ some k) ∧ ∀ p ∈ ro, p w ∧ ∀ w', (∀ k, Z k → w'.heap[k]? = w.heap[k]?) → p w'
  le : lo ≤ hi ∧ hi ≤ w.heap.size
abbrev Heap (B : Nat) (w : World) (own : List Res) (ro : List (World → Prop)) : Prop := Hp B w.heap.size w own ro

theorem Heap.start (w : World) : Heap w.heap.size w [] [] :=
  ⟨⟨fun _ => False, fun _ h => h.elim, fun _ h => by simp at h, List.Pairwise.nil, fun _ h => by simp at h⟩, Nat.le_refl _, Nat.le_refl _⟩
/-- Nothing of lo to hi has turned. -/
theorem Hp.keep {lo hi hi' : Nat} {w w' : World} {own : List Res} {ro : List (World → Prop)} (h : Hp lo hi w own ro) (hk : ∀ k, lo ≤ k → k < hi → w'.heap[k]? = w.heap[k]?) (hh : hi ≤ hi') (hs : hi' ≤ w'.heap.size) : Hp lo hi' w' own ro := by
  obtain ⟨⟨Z, hZ, ho, hp, hr⟩, hl⟩ := h
  refine ⟨⟨Z, fun k h => ⟨(hZ k h).1, Nat.lt_of_lt_of_le (hZ k h).2 hh⟩, fun r hr' => ?_, hp, fun p hp' => ?_⟩, Nat.le_trans hl.1 hh, hs⟩
  · obtain ⟨h1, h2⟩ := ho r hr'
    exact ⟨holds_keep h1 fun k hk' => ⟨hk k (h2 k hk').1 (h2 k hk').2.1, (h2 k hk').1⟩, fun k hk' => ⟨(h2 k hk').1, Nat.lt_of_lt_of_le (h2 k hk').2.1 hh, (h2 k hk').2.2⟩⟩
  · obtain ⟨_, h2⟩ := hr p hp'
    exact ⟨h2 w' fun k hk' => hk k (hZ k hk').1 (hZ k hk').2, fun w'' hw => h2 w'' fun k hk' => (hw k hk').trans (hk k (hZ k hk').1 (hZ k hk').2)⟩
theorem Hp.later {lo hi : Nat} {w w' : World} {own : List Res} {ro : List (World → Prop)} (h : Hp lo hi w own ro) (hb : Below w.heap.size w w') : Hp lo hi w' own ro :=
  h.keep (fun k _ h2 => hb.block k (Nat.lt_of_lt_of_le h2 h.le.2)) (Nat.le_refl _) (Nat.le_trans h.le.2 hb.size)
theorem Heap.below {B : Nat} {w w' : World} {own : List Res} {ro : List (World → Prop)} (h : Heap B w own ro) (hb : Below w.heap.size w w') : Heap B w' own ro :=
  Hp.keep h (fun k _ h2 => hb.block k h2) hb.size (Nat.le_refl _)
theorem Heap.drew {B : Nat} {w : World} {own : List Res} {ro : List (World → Prop)} (h : Heap B w own ro) : Heap B w.drew own ro := h.below (Below.refl _ _).drew
/-- Two that stand apart. -/
theorem Hp.join {lo hi lo' hi' B H : Nat} {w : World} {own own' : List Res} {ro ro' : List (World → Prop)} (h : Hp lo hi w own ro) (h' : Hp lo' hi' w own' ro') (hd : ∀ k, lo ≤ k → k < hi → lo' ≤ k → k < hi' → False)
    (hs : ∀ k, lo ≤ k → k < hi → B ≤ k ∧ k < H) (hs' : ∀ k, lo' ≤ k → k < hi' → B ≤ k ∧ k < H) (hH : B ≤ H ∧ H ≤ w.heap.size) : Hp B H w (own' ++ own) (ro' ++ ro) := by
  obtain ⟨⟨Z, hZ, ho, hp, hr⟩, hl⟩ := h
  obtain ⟨⟨Z', hZ', ho', hp', hr'⟩, hl'⟩ := h'
  refine ⟨⟨fun k => Z k ∨ Z' k, ?_, ?_, ?_, ?_⟩, hH⟩
  · rintro k (h | h)
    · exact hs k (hZ k h).1 (hZ k h).2
    · exact hs' k (hZ' k h).1 (hZ' k h).2
  · intro r hr1
    rcases List.mem_append.1 hr1 with h1 | h1
    · obtain ⟨a1, a2⟩ := ho' r h1
      refine ⟨holds_keep a1 fun k hk => ⟨rfl, (hs' k (a2 k hk).1 (a2 k hk).2.1).1⟩, fun k hk => ?_⟩
      have := a2 k hk
      refine ⟨(hs' k this.1 this.2.1).1, (hs' k this.1 this.2.1).2, ?_⟩
      rintro (hz | hz)
      · exact hd k (hZ k hz).1 (hZ k hz).2 this.1 this.2.1
      · exact this.2.2 hz
    · obtain ⟨a1, a2⟩ := ho r h1
      refine ⟨holds_keep a1 fun k hk => ⟨rfl, (hs k (a2 k hk).1 (a2 k hk).2.1).1⟩, fun k hk => ?_⟩
      have := a2 k hk
      refine ⟨(hs k this.1 this.2.1).1, (hs k this.1 this.2.1).2, ?_⟩
      rintro (hz | hz)
      · exact this.2.2 hz
      · exact hd k this.1 this.2.1 (hZ' k hz).1 (hZ' k hz).2
  · refine List.pairwise_append.2 ⟨hp', hp, fun r hr1 s hs1 k hk hk' => ?_⟩
    have h1 := (ho' r hr1).2 k hk
    have h2 := (ho s hs1).2 k hk'
    exact hd k h2.1 h2.2.1 h1.1 h1.2.1
  · intro p hp1
    rcases List.mem_append.1 hp1 with h1 | h1
    · exact ⟨(hr' p h1).1, fun w' hw => (hr' p h1).2 w' fun k hk => hw k (.inr hk)⟩
    · exact ⟨(hr p h1).1, fun w' hw => (hr p h1).2 w' fun k hk => hw k (.inl hk)⟩
/-- A call's results join what is owned. -/
theorem Heap.call {B : Nat} {w w' : World} {own own' : List Res} {ro ro' : List (World → Prop)} (h : Heap B w own ro) (hb : Below w.heap.size w w') (h' : Hp w.heap.size w'.heap.size w' own' ro') : Heap B w' (own' ++ own) (ro' ++ ro) := by
  have hk : Hp B w.heap.size w' own ro := Hp.keep h (fun k _ h2 => hb.block k h2) (Nat.le_refl _) hb.size
  have h1 := h.le.1
  have h2 := hb.size
  exact Hp.join hk h' (fun k _ a b _ => by omega) (fun k a b => ⟨a, by omega⟩) (fun k a b => ⟨by omega, b⟩) ⟨by omega, Nat.le_refl _⟩
theorem Heap.alloc {B : Nat} {w : World} {own : List Res} {ro : List (World → Prop)} (h : Heap B w own ro) (cs : List Value) (T : TypeId) : Heap B (w.alloc (.cells cs.toArray T)) (.box w.heap.size T cs :: own) ro := by
  have hb : Below w.heap.size w (w.alloc (.cells cs.toArray T)) := (Below.refl _ _).alloc (Nat.le_refl _) _
  have hn : Hp w.heap.size (w.alloc (.cells cs.toArray T)).heap.size (w.alloc (.cells cs.toArray T)) [.box w.heap.size T cs] [] := by
    refine ⟨⟨fun _ => False, fun _ h => h.elim, fun r hr => ?_, by simp, fun _ h => by simp at h⟩, by simp, Nat.le_refl _⟩
    simp at hr; subst hr
    refine ⟨heap_alloc_new w _, fun k hk => ?_⟩
    simp [Res.blk] at hk; subst hk
    simp
  exact h.call hb hn
/-- A row made by the call. -/
theorem Heap.alloc_row {B : Nat} {w : World} {own : List Res} {ro : List (World → Prop)} (h : Heap B w own ro) (xs : List Value) (E : TypeId) (size n : Nat) (hl : xs.length = n * size) (hm : n ≤ maxLen) :
    Heap B (w.alloc (.cells xs.toArray E)) (.row (some ⟨w.heap.size, 0, none⟩) n n E size xs :: own) ro := by
  have hb : Below w.heap.size w (w.alloc (.cells xs.toArray E)) := (Below.refl _ _).alloc (Nat.le_refl _) _
  have hn : Hp w.heap.size (w.alloc (.cells xs.toArray E)).heap.size (w.alloc (.cells xs.toArray E)) [.row (some ⟨w.heap.size, 0, none⟩) n n E size xs] [] := by
    refine ⟨⟨fun _ => False, fun _ h => h.elim, fun r hr => ?_, by simp, fun _ h => by simp at h⟩, by simp, Nat.le_refl _⟩
    simp at hr; subst hr
    refine ⟨?_, fun k hk => ?_⟩
    · by_cases h0 : n = 0
      · exact .inl ⟨h0, h0, List.eq_nil_of_length_eq_zero (by rw [hl, h0]; simp)⟩
      · exact .inr ⟨by omega, by have := World.ownsRow_lit (base := w.heap.size) (e := E) (size := size) w xs.toArray n (Nat.le_refl _) hm (by simpa using hl); simpa using this⟩
    · simp [Res.blk] at hk; obtain ⟨_, hk⟩ := hk; subst hk
      simp
  exact h.call hb hn
/-- A slice without room owns nothing. -/
theorem Hp.empty {lo hi : Nat} {w : World} {own : List Res} {ro : List (World → Prop)} (h : Hp lo hi w own ro) (a : Option Addr) (E : TypeId) (size : Nat) : Hp lo hi w (.row a 0 0 E size [] :: own) ro := by
  obtain ⟨⟨Z, hZ, ho, hpw, hr⟩, hl⟩ := h
  refine ⟨⟨Z, hZ, fun r hr' => ?_, List.Pairwise.cons (fun s _ k hk => by simp [Res.blk] at hk) hpw, hr⟩, hl⟩
  rcases List.mem_cons.1 hr' with rfl | hr'
  · exact ⟨.inl ⟨rfl, rfl, rfl⟩, fun k hk => by simp [Res.blk] at hk⟩
  · exact ho r hr'
theorem Hp.perm {lo hi : Nat} {w : World} {own own' : List Res} {ro : List (World → Prop)} (h : Hp lo hi w own ro) (hp : own.Perm own') : Hp lo hi w own' ro := by
  obtain ⟨⟨Z, hZ, ho, hpw, hr⟩, hl⟩ := h
  exact ⟨⟨Z, hZ, fun r hr' => ho r (hp.mem_iff.2 hr'), hpw.perm hp (fun h k h1 h2 => h k h2 h1), hr⟩, hl⟩
theorem Hp.sub {lo hi : Nat} {w : World} {own own' : List Res} {ro ro' : List (World → Prop)} (h : Hp lo hi w own ro) (hp : own'.Sublist own) (hr' : ∀ p ∈ ro', p ∈ ro) : Hp lo hi w own' ro' := by
  obtain ⟨⟨Z, hZ, ho, hpw, hr⟩, hl⟩ := h
  exact ⟨⟨Z, hZ, fun r hr' => ho r (hp.subset hr'), hpw.sublist hp, fun p hp' => hr p (hr' p hp')⟩, hl⟩
/-- The resource at a place turns: nothing but its block (or a new one in its stead). -/
theorem Heap.turn {B : Nat} {w w' : World} {own : List Res} {ro : List (World → Prop)} (h : Heap B w own ro) (i : Nat) (r r' : Res) (hi : own[i]? = some r) (hh : r'.holds B w') (hsz : w.heap.size ≤ w'.heap.size)
    (hk : ∀ k, k < w.heap.size → r.blk ≠ some k → w'.heap[k]? = w.heap[k]?) (hb : ∀ k, r'.blk = some k → r.blk = some k ∨ (w.heap.size ≤ k ∧ k < w'.heap.size)) : Heap B w' (own.set i r') ro := by
  obtain ⟨⟨Z, hZ, ho, hp, hr⟩, hl⟩ := h
  have hil : i < own.length := (List.getElem?_eq_some_iff.1 hi).1
  have hie : own[i] = r := (List.getElem?_eq_some_iff.1 hi).2
  have hri : r ∈ own := by rw [← hie]; exact List.getElem_mem _
  refine ⟨⟨Z, fun k hk' => by have := hZ k hk'; omega, fun s hs => ?_, ?_, fun p hp' => ?_⟩, by have := hl.1; omega, Nat.le_refl _⟩
  · obtain ⟨j, hj, rfl⟩ := List.mem_iff_getElem.1 hs
    have hj' : j < own.length := by simpa using hj
    rw [List.getElem_set]
    split
    · refine ⟨hh, fun k hk' => ?_⟩
      rcases hb k hk' with h1 | h1
      · have := (ho r hri).2 k h1
        exact ⟨this.1, by omega, this.2.2⟩
      · have := hl.1
        exact ⟨by omega, h1.2, fun hz => by have := hZ k hz; omega⟩
    · rename_i hne
      obtain ⟨h1, h2⟩ := ho own[j] (List.getElem_mem _)
      refine ⟨holds_keep h1 fun k hk' => ⟨hk k (h2 k hk').2.1 fun he => ?_, (h2 k hk').1⟩, fun k hk' => ⟨(h2 k hk').1, by have := (h2 k hk').2.1; omega, (h2 k hk').2.2⟩⟩
      have hpw := List.pairwise_iff_getElem.1 hp
      rcases Nat.lt_or_gt_of_ne hne with hlt | hlt
      · exact hpw i j hil hj' hlt k (by rw [hie]; exact he) hk'
      · exact hpw j i hj' hil hlt k hk' (by rw [hie]; exact he)
  · rw [List.pairwise_iff_getElem]
    intro a b ha hb' hab k hka hkb
    have ha' : a < own.length := by simpa using ha
    have hb'' : b < own.length := by simpa using hb'
    rw [List.getElem_set] at hka hkb
    have hpw := List.pairwise_iff_getElem.1 hp
    split at hka
    · rename_i e
      rw [if_neg (by omega)] at hkb
      rcases hb k hka with h1 | h1
      · exact hpw i b hil hb'' (by omega) k (by rw [hie]; exact h1) hkb
      · have := ((ho own[b] (List.getElem_mem _)).2 k hkb).2.1; omega
    · split at hkb
      · rcases hb k hkb with h1 | h1
        · exact hpw a i ha' hil (by omega) k hka (by rw [hie]; exact h1)
        · have := ((ho own[a] (List.getElem_mem _)).2 k hka).2.1; omega
      · exact hpw a b ha' hb'' hab k hka hkb
  · obtain ⟨_, h2⟩ := hr p hp'
    have hz : ∀ k, Z k → w'.heap[k]? = w.heap[k]? := fun k hk' => hk k (hZ k hk').2 fun he => ((ho r hri).2 k he).2.2 hk'
    exact ⟨h2 w' hz, fun w'' hw => h2 w'' fun k hk' => (hw k hk').trans (hz k hk')⟩

/-! what is read off it -/
theorem Hp.holds {lo hi : Nat} {w : World} {own : List Res} {ro : List (World → Prop)} (h : Hp lo hi w own ro) {r : Res} (i : Nat) (hi' : own[i]? = some r) : r.holds lo w ∧ ∀ k, r.blk = some k → lo ≤ k ∧ k < hi := by
  obtain ⟨⟨Z, hZ, ho, hp, hr⟩, hl⟩ := h
  have := ho r (List.mem_of_getElem? hi')
  exact ⟨this.1, fun k hk => ⟨(this.2 k hk).1, (this.2 k hk).2.1⟩⟩
theorem Hp.cell {lo hi : Nat} {w : World} {own : List Res} {ro : List (World → Prop)} (h : Hp lo hi w own ro) (i : Nat) {b : Nat} {T : TypeId} {cs : List Value} (hi' : own[i]? = some (.box b T cs)) (j : Nat) {v : Value} (hj : cs[j]? = some v) :
    w.cell? ⟨b, j, none⟩ = some v := by
  have := (h.holds i hi').1
  unfold Res.holds at this
  rw [cell_of_row w b j _ _ _ this]; simpa using hj
theorem Hp.free {lo hi : Nat} {w : World} {own : List Res} {ro : List (World → Prop)} (h : Hp lo hi w own ro) (i : Nat) {b : Nat} {T : TypeId} {cs : List Value} (hi' : own[i]? = some (.box b T cs)) (j : Nat) :
    w.frozen? ⟨b, j, none⟩ = false := by
  have := (h.holds i hi').1
  unfold Res.holds at this
  simp [World.frozen?, this]
theorem Hp.box_lt {lo hi : Nat} {w : World} {own : List Res} {ro : List (World → Prop)} (h : Hp lo hi w own ro) (i : Nat) {b : Nat} {T : TypeId} {cs : List Value} (hi' : own[i]? = some (.box b T cs)) : lo ≤ b ∧ b < hi :=
  (h.holds i hi').2 b rfl
theorem rs_of_owns {B : Nat} {w : World} {a : Option Addr} {n c : Nat} {E : TypeId} {size : Nat} {xs : List Value} (h : w.ownsRow B E size (.slice a n c) n xs) : Rs w size a n c xs := by
  obtain ⟨h1, h2⟩ := h
  rcases h2 with ⟨h2, h3⟩ | ⟨g, cap, cur, hv, hg, hh, hnc, hcm, hcs, ht⟩
  · simp only [Value.slice.injEq] at h2
    obtain ⟨rfl, rfl, rfl⟩ := h2
    have : xs = [] := List.eq_nil_of_length_eq_zero (by simpa using h1)
    subst this
    exact Rs.nil w size
  · simp only [Value.slice.injEq] at hv
    obtain ⟨rfl, _, rfl⟩ := hv
    refine ⟨hnc, hcm, (fun e => by cases e), h1, fun j u hj => ?_⟩
    have hjl : j < xs.length := (List.getElem?_eq_some_iff.1 hj).1
    have e : (adr (some ⟨g, 0, none⟩)).add j = ⟨g, j, none⟩ := by
      unfold adr Addr.add; split <;> simp_all
    rw [e, cell_of_row w g j cur E (0, 0) hh, ← hj, ← ht, List.getElem?_take, if_pos (by omega)]
    simp
theorem rs_of_holds {B : Nat} {w : World} {a : Option Addr} {n c : Nat} {E : TypeId} {size : Nat} {xs : List Value} (h : (Res.row a n c E size xs).holds B w) : Rs w size a n c xs := by
  rcases h with ⟨rfl, rfl, rfl⟩ | ⟨_, h⟩
  · exact ⟨Nat.le_refl _, Nat.zero_le _, fun _ => ⟨rfl, rfl⟩, by simp, fun j u h => by simp at h⟩
  · exact rs_of_owns h
theorem Hp.row {lo hi : Nat} {w : World} {own : List Res} {ro : List (World → Prop)} (h : Hp lo hi w own ro) (i : Nat) {a : Option Addr} {n c : Nat} {E : TypeId} {size : Nat} {xs : List Value} (hi' : own[i]? = some (.row a n c E size xs)) : Rs w size a n c xs :=
  rs_of_holds (h.holds i hi').1
/-- An own row is only read from now on. -/
theorem Hp.freeze {lo hi : Nat} {w : World} {own : List Res} {ro : List (World → Prop)} (h : Hp lo hi w own ro) (i : Nat) {a : Option Addr} {n c : Nat} {E : TypeId} {size : Nat} {xs : List Value} (hi' : own[i]? = some (.row a n c E size xs)) :
    Hp lo hi w (own.eraseIdx i) ((fun w => Rs w size a n c xs) :: ro) := by
  have hrow := h.row i hi'
  obtain ⟨⟨Z, hZ, ho, hp, hr⟩, hl⟩ := h
  have hil : i < own.length := (List.getElem?_eq_some_iff.1 hi').1
  have hie : own[i] = .row a n c E size xs := (List.getElem?_eq_some_iff.1 hi').2
  have hri := ho _ (List.mem_of_getElem? hi')
  refine ⟨⟨fun k => Z k ∨ (Res.row a n c E size xs).blk = some k, ?_, fun r hr' => ?_, hp.sublist (List.eraseIdx_sublist ..), fun p hp' => ?_⟩, hl⟩
  · rintro k (h | h)
    · exact hZ k h
    · exact ⟨(hri.2 k h).1, (hri.2 k h).2.1⟩
  · obtain ⟨j, hj, e⟩ := List.mem_eraseIdx_iff_getElem.1 hr'
    obtain ⟨hne, rfl⟩ := e
    obtain ⟨h1, h2⟩ := ho own[j] (List.getElem_mem _)
    refine ⟨h1, fun k hk => ⟨(h2 k hk).1, (h2 k hk).2.1, ?_⟩⟩
    rintro (hz | hz)
    · exact (h2 k hk).2.2 hz
    · have hpw := List.pairwise_iff_getElem.1 hp
      rcases Nat.lt_or_gt_of_ne hne with hlt | hlt
      · exact hpw j i (by assumption) hil hlt k hk (by rw [hie]; exact hz)
      · exact hpw i j hil (by assumption) hlt k (by rw [hie]; exact hz) hk
  · rcases List.mem_cons.1 hp' with rfl | hp'
    · refine ⟨hrow, fun w' hw => hrow.keep fun hne => hw _ (.inr ?_)⟩
      have hcn := hrow.cap
      have hc0 : c ≠ 0 := fun e => hne (List.eq_nil_of_length_eq_zero (by rw [hrow.len, show n = 0 by omega]; simp))
      cases a with
      | none => exact absurd (List.eq_nil_of_length_eq_zero (by rw [hrow.len, (hrow.none rfl).1]; simp)) hne
      | some b => simp [Res.blk, hc0, adr]
    · exact ⟨(hr p hp').1, fun w' hw => (hr p hp').2 w' fun k hk => hw k (.inl hk)⟩
theorem Hp.weak {lo hi : Nat} {w : World} {own : List Res} {ro : List (World → Prop)} {p q : World → Prop} (h : Hp lo hi w own (p :: ro)) (hq : ∀ w, p w → q w) : Hp lo hi w own (q :: ro) := by
  obtain ⟨⟨Z, hZ, ho, hp, hr⟩, hl⟩ := h
  refine ⟨⟨Z, hZ, ho, hp, fun s hs => ?_⟩, hl⟩
  rcases List.mem_cons.1 hs with rfl | hs
  · have := hr p (List.mem_cons_self ..)
    exact ⟨hq _ this.1, fun w' hw => hq _ (this.2 w' hw)⟩
  · exact hr s (List.mem_cons_of_mem _ hs)
/-- What is only read holds. -/
theorem Hp.look {lo hi : Nat} {w : World} {own : List Res} {ro : List (World → Prop)} (h : Hp lo hi w own ro) (i : Nat) {p : World → Prop} (hi' : ro[i]? = some p) : p w := by
  obtain ⟨⟨Z, hZ, ho, hp, hr⟩, hl⟩ := h
  exact (hr p (List.mem_of_getElem? hi')).1
/-- A store into a box. -/
theorem Heap.store {B : Nat} {w : World} {own : List Res} {ro : List (World → Prop)} (h : Heap B w own ro) (i : Nat) {b : Nat} {T : TypeId} {cs : List Value} (hi' : own[i]? = some (.box b T cs)) (j : Nat) (v : Value) :
    Heap B (w.setCell ⟨b, j, none⟩ v) (own.set i (.box b T (cs.set j v))) ro := by
  have hh := (h.holds i hi').1
  unfold Res.holds at hh
  have hlt := (h.box_lt i hi').2
  refine h.turn i _ _ hi' ?_ (by simp [World.setCell]) (fun k hk hne => Below.heap_setCell _ _ _ _ fun e => hne (by simp [Res.blk, e])) (fun k hk => .inl (by simpa [Res.blk] using hk))
  unfold Res.holds
  simp [World.setCell, Array.getElem?_modify, hh]
/-! the same by a set of blocks: for results that came in an open order -/
def Hs (D : Nat → Prop) (w : World) (own : List Res) (ro : List (World → Prop)) : Prop :=
  ∃ Z : Nat → Prop, (∀ k, Z k → D k) ∧ (∀ r ∈ own, r.holds 0 w ∧ ∀ k, r.blk = some k → D k ∧ ¬ Z k) ∧
    own.Pairwise (fun r s => ∀ k, r.blk = some k → s.blk ≠ some k) ∧ ∀ p ∈ ro, p w ∧ ∀ w', (∀ k, Z k → w'.heap[k]? = w.heap[k]?) → p w'
theorem Hp.hs {lo hi : Nat} {w : World} {own : List Res} {ro : List (World → Prop)} (h : Hp lo hi w own ro) : Hs (fun k => lo ≤ k ∧ k < hi) w own ro := by
  obtain ⟨⟨Z, hZ, ho, hp, hr⟩, _⟩ := h
  exact ⟨Z, hZ, fun r hr' => ⟨holds_keep (ho r hr').1 fun k hk => ⟨rfl, Nat.zero_le _⟩, fun k hk => ⟨⟨((ho r hr').2 k hk).1, ((ho r hr').2 k hk).2.1⟩, ((ho r hr').2 k hk).2.2⟩⟩, hp, hr⟩
theorem Hs.hp {D : Nat → Prop} {B H : Nat} {w : World} {own : List Res} {ro : List (World → Prop)} (h : Hs D w own ro) (hs : ∀ k, D k → B ≤ k ∧ k < H) (hH : B ≤ H ∧ H ≤ w.heap.size) : Hp B H w own ro := by
  obtain ⟨Z, hZ, ho, hp, hr⟩ := h
  exact ⟨⟨Z, fun k hk => hs k (hZ k hk), fun r hr' => ⟨holds_keep (ho r hr').1 fun k hk => ⟨rfl, (hs k ((ho r hr').2 k hk).1).1⟩, fun k hk => ⟨(hs k ((ho r hr').2 k hk).1).1, (hs k ((ho r hr').2 k hk).1).2, ((ho r hr').2 k hk).2⟩⟩, hp, hr⟩, hH⟩
theorem Hs.join {D D' : Nat → Prop} {w : World} {own own' : List Res} {ro ro' : List (World → Prop)} (h : Hs D w own ro) (h' : Hs D' w own' ro') (hd : ∀ k, D k → D' k → False) : Hs (fun k => D k ∨ D' k) w (own' ++ own) (ro' ++ ro) := by
  obtain ⟨Z, hZ, ho, hp, hr⟩ := h
  obtain ⟨Z', hZ', ho', hp', hr'⟩ := h'
  refine ⟨fun k => Z k ∨ Z' k, ?_, ?_, ?_, ?_⟩
  · rintro k (h | h)
    · exact .inl (hZ k h)
    · exact .inr (hZ' k h)
  · intro r hr1
    rcases List.mem_append.1 hr1 with h1 | h1
    · obtain ⟨a1, a2⟩ := ho' r h1
      refine ⟨a1, fun k hk => ⟨.inr (a2 k hk).1, ?_⟩⟩
      rintro (hz | hz)
      · exact hd k (hZ k hz) (a2 k hk).1
      · exact (a2 k hk).2 hz
    · obtain ⟨a1, a2⟩ := ho r h1
      refine ⟨a1, fun k hk => ⟨.inl (a2 k hk).1, ?_⟩⟩
      rintro (hz | hz)
      · exact (a2 k hk).2 hz
      · exact hd k (a2 k hk).1 (hZ' k hz)
  · exact List.pairwise_append.2 ⟨hp', hp, fun r hr1 s hs1 k hk hk' => hd k ((ho s hs1).2 k hk').1 ((ho' r hr1).2 k hk).1⟩
  · intro p hp1
    rcases List.mem_append.1 hp1 with h1 | h1
    · exact ⟨(hr' p h1).1, fun w' hw => (hr' p h1).2 w' fun k hk => hw k (.inr hk)⟩
    · exact ⟨(hr p h1).1, fun w' hw => (hr p h1).2 w' fun k hk => hw k (.inl hk)⟩
end Go.Proofs.Ytkichjejadkdgaa
