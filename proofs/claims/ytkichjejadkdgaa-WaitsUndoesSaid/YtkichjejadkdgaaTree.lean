/- What a call knows of memory, as trees. Tr: a value that lies in memory that nobody writes any more (a scalar, or a slice: its elements, each a list of cells). AV: a value in a slot (a tree; a slice or a pointer into what the call owns, by number; a slice or a pointer that is lent). Ob: what a call owns: a box (a variable), a row (a slice's own memory). No program in sight. -/
import Derived.Test.YtkichjejadkdgaaHeap
namespace Go.Proofs.Ytkichjejadkdgaa
set_option linter.unusedVariables false
set_option linter.unusedSimpArgs false
set_option linter.unnecessarySimpa false
open Go.RowKit

inductive Tr where
  | v (x : Value)
  | lst (els : List (List Tr))
instance : Inhabited Tr := ⟨.lst []⟩
inductive AV where
  | any
  | t (x : Tr)
  | nl
  | ln (els : List (List Tr))
  | lp (cs : List AV)
  | sl (i k n : Nat)
  | sub (i k off n : Nat)
  | ptr (i off : Nat)
  | rp (i k idx off : Nat)
  | fn (f : Fn) (first cap : List AV)
  | agg (l : List AV)
  | tup (l : List AV)
instance : Inhabited AV := ⟨.any⟩
inductive Ob where
  | box (T : TypeId) (cs : List AV)
  | row (k : Nat) (E : TypeId) (size : Nat) (els : List (List Tr))
  | gone (k : Nat)
  | hole
instance : Inhabited Ob := ⟨.gone 0⟩
/-- which versions of an object there have been -/
def Ob.lim : Ob → Nat
  | .box _ _ => 1
  | .row k _ _ _ => k + 1
  | .gone k => k + 1
  | .hole => 0

/-- A tree in a world; Z: the blocks that nobody writes. -/
inductive Frz (w : World) (Z : Nat → Prop) : Tr → Value → Prop
  | v {x : Value} (h : x.oneCell' = true) : Frz w Z (.v x) x
  | lst {els : List (List Tr)} {a : Option Addr} {n c size : Nat} {xs : List Value} (hr : Rs w size a n c xs) (hz : xs ≠ [] → Z (adr a).block) (hn : els.length = n)
      (hs : ∀ cs ∈ els, cs.length = size) (hf : ∀ (i : Nat) cs (j : Nat) x u, els[i]? = some cs → cs[j]? = some x → xs[i * size + j]? = some u → Frz w Z x u) : Frz w Z (.lst els) (.slice a n c)
structure Elems (R : Tr → Value → Prop) (size : Nat) (els : List (List Tr)) (xs : List Value) : Prop where
  len : xs.length = els.length * size
  each : ∀ cs ∈ els, cs.length = size
  at_ : ∀ (i : Nat) cs (j : Nat) x u, els[i]? = some cs → cs[j]? = some x → xs[i * size + j]? = some u → R x u
theorem Frz.open {w : World} {Z : Nat → Prop} {els : List (List Tr)} {v : Value} (h : Frz w Z (.lst els) v) :
    ∃ a c size xs, v = .slice a els.length c ∧ Rs w size a els.length c xs ∧ (xs ≠ [] → Z (adr a).block) ∧ Elems (Frz w Z) size els xs := by
  cases h with
  | lst hr hz hn hs hf => subst hn; exact ⟨_, _, _, _, rfl, hr, hz, hr.len, hs, hf⟩
theorem Frz.shut {w : World} {Z : Nat → Prop} {els : List (List Tr)} {a : Option Addr} {n c size : Nat} {xs : List Value} (hn : els.length = n) (hr : Rs w size a n c xs) (hz : xs ≠ [] → Z (adr a).block) (he : Elems (Frz w Z) size els xs) : Frz w Z (.lst els) (.slice a n c) :=
  .lst hr hz hn he.each he.at_
theorem Frz.mono {w w' : World} {Z Z' : Nat → Prop} (hz : ∀ b, Z b → Z' b ∧ w'.heap[b]? = w.heap[b]?) {x : Tr} {u : Value} (h : Frz w Z x u) : Frz w' Z' x u := by
  induction h with
  | v h => exact .v h
  | lst hr hz' hn hs _ ih => exact .lst (hr.keep fun hne => (hz _ (hz' hne)).2) (fun hne => (hz _ (hz' hne)).1) hn hs ih
theorem Frz.one {w : World} {Z : Nat → Prop} {x : Tr} {u : Value} (h : Frz w Z x u) : u.oneCell' = true := by
  cases h with
  | v h => exact h
  | lst => rfl

/-! elements -/
theorem idx_lt {i j n size : Nat} (hi : i < n) (hj : j < size) : i * size + j < n * size := by
  have : (i + 1) * size ≤ n * size := Nat.mul_le_mul_right _ hi
  rw [Nat.succ_mul] at this; omega
theorem get_lt {α : Type} {l : List α} {i : Nat} {x : α} (h : l[i]? = some x) : i < l.length := (List.getElem?_eq_some_iff.1 h).1
section
variable {R R' : Tr → Value → Prop} {size : Nat} {els els' : List (List Tr)} {xs xs' : List Value}
theorem Elems.mono (h : Elems R size els xs) (hr : ∀ x u, R x u → R' x u) : Elems R' size els xs := ⟨h.len, h.each, fun i cs j x u a b c => hr _ _ (h.at_ i cs j x u a b c)⟩
theorem Elems.nil : Elems R size [] [] := ⟨by simp, fun _ h => by simp at h, fun i cs j x u h => by simp at h⟩
theorem Elems.cell (h : Elems R size els xs) {i : Nat} {cs : List Tr} (hi : els[i]? = some cs) {j : Nat} {x : Tr} (hj : cs[j]? = some x) : ∃ u, xs[i * size + j]? = some u ∧ R x u := by
  have h1 := get_lt hi
  have h2 := get_lt hj
  rw [h.each cs (List.mem_of_getElem? hi)] at h2
  have h3 := idx_lt h1 h2
  rw [← h.len] at h3
  exact ⟨_, List.getElem?_eq_getElem h3, h.at_ i cs j x _ hi hj (List.getElem?_eq_getElem h3)⟩
theorem Elems.all (h : Elems R size els xs) {q : Nat} {u : Value} (hq : xs[q]? = some u) : ∃ i cs j x, els[i]? = some cs ∧ cs[j]? = some x ∧ q = i * size + j ∧ R x u := by
  have h1 := get_lt hq
  rw [h.len] at h1
  have hs : 0 < size := by
    rcases Nat.eq_zero_or_pos size with e | e
    · rw [e] at h1; omega
    · exact e
  have hi : q / size < els.length := (Nat.div_lt_iff_lt_mul hs).2 h1
  have hj : q % size < size := Nat.mod_lt _ hs
  have he : q / size * size + q % size = q := by rw [Nat.mul_comm]; exact Nat.div_add_mod q size
  have hc := h.each _ (List.getElem_mem hi)
  refine ⟨q / size, els[q / size], q % size, els[q / size][q % size]'(by rw [hc]; exact hj), List.getElem?_eq_getElem hi, List.getElem?_eq_getElem _, he.symm, ?_⟩
  exact h.at_ _ _ _ _ _ (List.getElem?_eq_getElem hi) (List.getElem?_eq_getElem (by rw [hc]; exact hj)) (by rw [he]; exact hq)
theorem Elems.append (h : Elems R size els xs) (h' : Elems R size els' xs') : Elems R size (els ++ els') (xs ++ xs') := by
  refine ⟨by rw [List.length_append, List.length_append, h.len, h'.len, Nat.add_mul], fun cs hc => (List.mem_append.1 hc).elim (h.each cs) (h'.each cs), fun i cs j x u hi hj hu => ?_⟩
  by_cases hlt : i < els.length
  · rw [List.getElem?_append_left hlt] at hi
    have hjl := get_lt hj
    rw [h.each cs (List.mem_of_getElem? hi)] at hjl
    rw [List.getElem?_append_left (by rw [h.len]; exact idx_lt hlt hjl)] at hu
    exact h.at_ i cs j x u hi hj hu
  · rw [List.getElem?_append_right (by omega)] at hi
    have hge : els.length * size ≤ i * size := Nat.mul_le_mul_right _ (by omega)
    rw [List.getElem?_append_right (by rw [h.len]; omega), h.len] at hu
    refine h'.at_ (i - els.length) cs j x u hi hj ?_
    rw [← hu, Nat.sub_mul]
    congr 1
    omega
theorem Elems.take (h : Elems R size els xs) (n : Nat) : Elems R size (els.take n) (xs.take (n * size)) := by
  refine ⟨?_, fun cs hc => h.each cs (List.mem_of_mem_take hc), fun i cs j x u hi hj hu => ?_⟩
  · rw [List.length_take, List.length_take, h.len]
    rcases Nat.le_total n els.length with hn | hn
    · rw [Nat.min_eq_left hn, Nat.min_eq_left (Nat.mul_le_mul_right _ hn)]
    · rw [Nat.min_eq_right hn, Nat.min_eq_right (Nat.mul_le_mul_right _ hn)]
  · rw [List.getElem?_take] at hi hu
    split at hi
    · split at hu
      · exact h.at_ i cs j x u hi hj hu
      · cases hu
    · cases hi
theorem Elems.drop (h : Elems R size els xs) (n : Nat) : Elems R size (els.drop n) (xs.drop (n * size)) := by
  refine ⟨by rw [List.length_drop, List.length_drop, h.len, Nat.sub_mul], fun cs hc => h.each cs (List.mem_of_mem_drop hc), fun i cs j x u hi hj hu => ?_⟩
  rw [List.getElem?_drop] at hi hu
  exact h.at_ (n + i) cs j x u hi hj (by rw [← hu, Nat.add_mul, Nat.add_assoc])
theorem Elems.replicate {zs : List Tr} {us : List Value} (hz : zs.length = size) (hu : us.length = size) (hr : ∀ (j : Nat) x u, zs[j]? = some x → us[j]? = some u → R x u) : ∀ n, Elems R size (List.replicate n zs) ((List.replicate n us).flatten)
  | 0 => Elems.nil
  | n + 1 => by
    rw [List.replicate_succ, List.replicate_succ, List.flatten_cons]
    have h1 : Elems R size [zs] us := ⟨by simp [hu], fun cs hc => by simp at hc; rw [hc]; exact hz, fun i cs j x u hi hj hu => by
      cases i with
      | zero => simp at hi; subst hi; exact hr j x u hj (by simpa using hu)
      | succ i => simp at hi⟩
    exact h1.append (Elems.replicate hz hu hr n)
/-- Cells of an element are turned. -/
theorem Elems.set (h : Elems R size els xs) {i f : Nat} {cs ts : List Tr} {vs : List Value} (hi : els[i]? = some cs) (hl : ts.length = vs.length) (hf : f + ts.length ≤ size) (hr : ∀ (j : Nat) x u, ts[j]? = some x → vs[j]? = some u → R x u) :
    Elems R size (els.set i (cs.take f ++ ts ++ cs.drop (f + ts.length))) (xs.take (i * size + f) ++ vs ++ xs.drop (i * size + f + vs.length)) := by
  have hil := get_lt hi
  have hcs := h.each cs (List.mem_of_getElem? hi)
  have hm : i * size + size ≤ els.length * size := by rw [← Nat.succ_mul]; exact Nat.mul_le_mul_right _ hil
  have hxl := h.len
  have hcl : (cs.take f ++ ts ++ cs.drop (f + ts.length)).length = size := by
    simp only [List.length_append, List.length_take, List.length_drop]; omega
  refine ⟨?_, ?_, ?_⟩
  · simp only [List.length_append, List.length_take, List.length_drop, List.length_set]; omega
  · intro c hc
    rcases List.mem_or_eq_of_mem_set hc with hc | hc
    · exact h.each c hc
    · rw [hc]; exact hcl
  · intro i' c j x u hi' hj hu
    rw [List.getElem?_set] at hi'
    have hxt : (xs.take (i * size + f)).length = i * size + f := by rw [List.length_take]; omega
    by_cases e : i = i'
    · subst e
      rw [if_pos rfl, if_pos hil] at hi'
      cases hi'
      have hjl := get_lt hj
      rw [hcl] at hjl
      have hct : (cs.take f).length = f := by rw [List.length_take]; omega
      by_cases hj1 : j < f
      · rw [List.append_assoc, List.getElem?_append_left (by rw [hct]; exact hj1), List.getElem?_take, if_pos hj1] at hj
        rw [List.append_assoc, List.getElem?_append_left (by rw [hxt]; omega), List.getElem?_take, if_pos (by omega)] at hu
        exact h.at_ i cs j x u hi hj hu
      · by_cases hj2 : j < f + ts.length
        · rw [List.append_assoc, List.getElem?_append_right (by rw [hct]; omega), hct, List.getElem?_append_left (by omega)] at hj
          rw [List.append_assoc, List.getElem?_append_right (by rw [hxt]; omega), hxt, List.getElem?_append_left (by omega)] at hu
          refine hr (j - f) x u hj ?_
          rw [← hu]; congr 1; omega
        · rw [List.getElem?_append_right (by simp only [List.length_append, hct]; omega), List.length_append, hct, List.getElem?_drop] at hj
          rw [List.getElem?_append_right (by simp only [List.length_append, hxt]; omega), List.length_append, hxt, List.getElem?_drop] at hu
          refine h.at_ i cs j x u hi ?_ ?_
          · rw [← hj]; congr 1; omega
          · rw [← hu]; congr 1; omega
    · rw [if_neg e] at hi'
      have hjl := get_lt hj
      rw [h.each c (List.mem_of_getElem? hi')] at hjl
      have hil' := get_lt hi'
      refine h.at_ i' c j x u hi' hj ?_
      rcases Nat.lt_or_gt_of_ne e with hlt | hlt
      · have : (i + 1) * size ≤ i' * size := Nat.mul_le_mul_right _ hlt
        rw [Nat.succ_mul] at this
        rw [List.getElem?_append_right (by simp only [List.length_append, hxt]; omega), List.length_append, hxt, List.getElem?_drop] at hu
        rw [← hu]; congr 1; omega
      · have : (i' + 1) * size ≤ i * size := Nat.mul_le_mul_right _ hlt
        rw [Nat.succ_mul] at this
        rw [List.append_assoc, List.getElem?_append_left (by rw [hxt]; omega), List.getElem?_take, if_pos (by omega)] at hu
        exact hu
end
theorem Elems.one {w : World} {Z : Nat → Prop} {size : Nat} {els : List (List Tr)} {xs : List Value} (h : Elems (Frz w Z) size els xs) : ∀ u ∈ xs, u.oneCell' = true := by
  intro u hu
  obtain ⟨q, hq⟩ := List.getElem?_of_mem hu
  obtain ⟨i, cs, j, x, _, _, _, hr⟩ := h.all hq
  exact hr.one

/-! values -/
structure Pl where
  a : Option Addr
  c : Nat
  s : Nat
abbrev Rho := Nat → Nat → Pl
inductive Val (Kn : Nat → Nat → Prop) (ρ : Rho) (w : World) (Z Y : Nat → Prop) : AV → Value → Prop
  | any (v : Value) : Val Kn ρ w Z Y .any v
  | t {x : Tr} {v : Value} (h : Frz w Z x v) : Val Kn ρ w Z Y (.t x) v
  | nl (a : Option Addr) : Val Kn ρ w Z Y .nl (.slice a 0 0)
  | ln {els : List (List Tr)} {a : Option Addr} {n c size : Nat} {xs : List Value} (hr : Rs w size a n c xs) (hz : xs ≠ [] → Y (adr a).block) (hn : els.length = n) (he : Elems (Frz w Z) size els xs) : Val Kn ρ w Z Y (.ln els) (.slice a n c)
  | lp {cs : List AV} {p : Addr} {us : List Value} (hl : cs.length = us.length) (ho : ∀ u ∈ us, u.oneCell' = true) (hc : ∀ (j : Nat) u, us[j]? = some u → Y p.block ∧ w.cell? (p.add j) = some u) (hv : ∀ (j : Nat) x u, cs[j]? = some x → us[j]? = some u → Val Kn ρ w Z Y x u) : Val Kn ρ w Z Y (.lp cs) (.pointer (some p))
  | sl {i k n : Nat} (hk : Kn i k) (hc : n ≤ (ρ i k).c) (h0 : (ρ i k).a = .none → (ρ i k).c = 0) : Val Kn ρ w Z Y (.sl i k n) (.slice (ρ i k).a n (ρ i k).c)
  | sub {i k off n : Nat} {a : Option Addr} {c : Nat} (hk : Kn i k) (hn : n ≤ c) (hm : c ≤ maxLen) (h0 : a = .none → n = 0 ∧ c = 0) (ha : n ≠ 0 → a = some ((adr (ρ i k).a).add (off * (ρ i k).s))) : Val Kn ρ w Z Y (.sub i k off n) (.slice a n c)
  | ptr {i off b : Nat} (hk : Kn i 0) (ha : (ρ i 0).a = some ⟨b, 0, none⟩) : Val Kn ρ w Z Y (.ptr i off) (.pointer (some ⟨b, off, none⟩))
  | rp {i k idx off : Nat} (hk : Kn i k) : Val Kn ρ w Z Y (.rp i k idx off) (.pointer (some ((adr (ρ i k).a).add (idx * (ρ i k).s + off))))
  | fn {f : Fn} {first cap : List AV} {us vs : List Value} (h1 : first.length = us.length) (h2 : cap.length = vs.length) (hu : ∀ (j : Nat) x u, first[j]? = some x → us[j]? = some u → Val Kn ρ w Z Y x u) (hv : ∀ (j : Nat) x u, cap[j]? = some x → vs[j]? = some u → Val Kn ρ w Z Y x u) : Val Kn ρ w Z Y (.fn f first cap) (.func f us.toArray vs.toArray)
  | agg {l : List AV} {us : List Value} (h1 : l.length = us.length) (ho : ∀ u ∈ us, u.oneCell' = true) (hu : ∀ (j : Nat) x u, l[j]? = some x → us[j]? = some u → Val Kn ρ w Z Y x u) : Val Kn ρ w Z Y (.agg l) (.agg us.toArray)
  | tup {l : List AV} {us : List Value} (h1 : l.length = us.length) (hu : ∀ (j : Nat) x u, l[j]? = some x → us[j]? = some u → Val Kn ρ w Z Y x u) : Val Kn ρ w Z Y (.tup l) (.tuple us.toArray)
structure AVs (R : AV → Value → Prop) (l : List AV) (us : List Value) : Prop where
  len : l.length = us.length
  at_ : ∀ (j : Nat) x u, l[j]? = some x → us[j]? = some u → R x u
theorem Val.mono {Kn Kn' : Nat → Nat → Prop} {ρ ρ' : Rho} {w w' : World} {Z Z' Y Y' : Nat → Prop} (hk : ∀ i k, Kn i k → Kn' i k ∧ ρ' i k = ρ i k) (hz : ∀ b, Z b → Z' b ∧ w'.heap[b]? = w.heap[b]?) (hy : ∀ b, Y b → Y' b ∧ w'.heap[b]? = w.heap[b]?)
    {x : AV} {v : Value} (h : Val Kn ρ w Z Y x v) : Val Kn' ρ' w' Z' Y' x v := by
  induction h with
  | any v => exact .any v
  | t h => exact .t (h.mono hz)
  | nl a => exact .nl a
  | ln hr hz' hn he => exact .ln (hr.keep fun hne => (hy _ (hz' hne)).2) (fun hne => (hy _ (hz' hne)).1) hn (he.mono fun _ _ h => h.mono hz)
  | lp hl ho hc _ ih =>
    refine .lp hl ho (fun j u hj => ⟨(hy _ (hc j u hj).1).1, ?_⟩) ih
    rw [← (hc j u hj).2]
    exact World.cell?_of_block (by rw [add_block]; exact (hy _ (hc j u hj).1).2)
  | sl hk' hc h0 => rw [← (hk _ _ hk').2] at hc h0 ⊢; exact .sl (hk _ _ hk').1 hc h0
  | sub hk' hn hm h0 ha => exact .sub (hk _ _ hk').1 hn hm h0 (by rw [(hk _ _ hk').2]; exact ha)
  | ptr hk' ha => exact .ptr (hk _ _ hk').1 (by rw [(hk _ _ hk').2]; exact ha)
  | rp hk' => rw [← (hk _ _ hk').2]; exact .rp (hk _ _ hk').1
  | fn h1 h2 _ _ ih1 ih2 => exact .fn h1 h2 ih1 ih2
  | agg h1 ho _ ih => exact .agg h1 ho ih
  | tup h1 _ ih => exact .tup h1 ih
/-- The cells of a value. -/
def AV.flat : AV → Option (List AV)
  | .any => none
  | .tup _ => none
  | .agg l => some l
  | .t x => some [.t x]
  | .nl => some [.nl]
  | .ln els => some [.ln els]
  | .lp cs => some [.lp cs]
  | .sl i k n => some [.sl i k n]
  | .sub i k off n => some [.sub i k off n]
  | .ptr i off => some [.ptr i off]
  | .rp i k idx off => some [.rp i k idx off]
  | .fn f a b => some [.fn f a b]
theorem Val.flat {Kn : Nat → Nat → Prop} {ρ : Rho} {w : World} {Z Y : Nat → Prop} {x : AV} {v : Value} (h : Val Kn ρ w Z Y x v) {cs : List AV} (hf : x.flat = some cs) :
    ∃ us : List Value, v.cells = us.toArray ∧ AVs (Val Kn ρ w Z Y) cs us ∧ ∀ u ∈ us, u.oneCell' = true := by
  have one : ∀ (x : AV) (v : Value), Val Kn ρ w Z Y x v → v.oneCell' = true → ∃ us : List Value, v.cells = us.toArray ∧ AVs (Val Kn ρ w Z Y) [x] us ∧ ∀ u ∈ us, u.oneCell' = true := by
    intro x v h h1
    refine ⟨[v], ?_, ⟨rfl, fun j y u hj hu => ?_⟩, fun u hu => by simp at hu; subst hu; exact h1⟩
    · cases v <;> first | rfl | cases h1
    · cases j with
      | zero => simp at hj hu; subst hj hu; exact h
      | succ j => simp at hj
  cases h with
  | any | tup => cases hf
  | agg h1 ho hu => cases hf; exact ⟨_, rfl, ⟨h1, hu⟩, ho⟩
  | t h => cases hf; exact one _ _ (.t h) h.one
  | nl a => cases hf; exact one _ _ (.nl a) rfl
  | ln hr hz hn he => cases hf; exact one _ _ (.ln hr hz hn he) rfl
  | lp hl ho hc hv => cases hf; exact one _ _ (.lp hl ho hc hv) rfl
  | sl hk hc h0 => cases hf; exact one _ _ (.sl hk hc h0) rfl
  | sub hk hn hm h0 ha => cases hf; exact one _ _ (.sub hk hn hm h0 ha) rfl
  | ptr hk ha => cases hf; exact one _ _ (.ptr hk ha) rfl
  | rp hk => cases hf; exact one _ _ (.rp hk) rfl
  | fn h1 h2 hu hv => cases hf; exact one _ _ (.fn h1 h2 hu hv) rfl
end Go.Proofs.Ytkichjejadkdgaa
