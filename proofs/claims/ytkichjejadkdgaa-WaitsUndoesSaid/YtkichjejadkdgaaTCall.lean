/- Contracts over trees. C P f args H R: a call of f with these arguments, by one who hands it the objects H, gives a value r and objects 'heap' (H's in front) with R r heap. No world, no address. -/
import Derived.Test.YtkichjejadkdgaaTLit
namespace Go.Proofs.Ytkichjejadkdgaa
set_option linter.unusedVariables false
set_option linter.unusedSimpArgs false
set_option linter.unnecessarySimpa false
open Go.RowKit
/-! other numbers for the same objects -/
def upF (g : Nat → Option Nat) : Nat → AV → AV
  | 0, _ => .any
  | k + 1, x => match x with
    | .t x => .t x
    | .nl => .nl
    | .sl i k n => match g i with | some j => .sl j k n | none => .any
    | .sub i k off n => match g i with | some j => .sub j k off n | none => .any
    | .ptr i off => match g i with | some j => .ptr j off | none => .any
    | .rp i k idx off => match g i with | some j => .rp j k idx off | none => .any
    | .fn f a b => .fn f (a.map (upF g k)) (b.map (upF g k))
    | .agg l => .agg (l.map (upF g k))
    | .tup l => .tup (l.map (upF g k))
    | .any => .any
    | .ln _ => .any
    | .lp _ => .any
def upA (g : Nat → Option Nat) (x : AV) : AV := upF g 5 x
def upO (g : Nat → Option Nat) : Ob → Ob
  | .box t cs => .box t (cs.map (upA g))
  | .row k E s els => .row k E s els
  | .gone k => .gone k
  | .hole => .hole
theorem val_upF {Kn Kn' : Nat → Nat → Prop} {ρ ρ' : Rho} {w : World} {Z Y Y' : Nat → Prop} {g : Nat → Option Nat} (hk : ∀ i k j, g i = some j → Kn i k → Kn' j k ∧ ρ' j k = ρ i k) : ∀ (q : Nat) {x : AV} {v : Value}, Val Kn ρ w Z Y x v → Val Kn' ρ' w Z Y' (upF g q x) v := by
  intro q
  induction q with
  | zero => intro x v _; exact .any v
  | succ q ih =>
    have pw : ∀ {l : List AV} {us : List Value}, l.length = us.length → (∀ (j : Nat) x u, l[j]? = some x → us[j]? = some u → Val Kn ρ w Z Y x u) → (l.map (upF g q)).length = us.length ∧ ∀ (j : Nat) x u, (l.map (upF g q))[j]? = some x → us[j]? = some u → Val Kn' ρ' w Z Y' x u := fun {l us} h1 h2 => by
      refine ⟨by simpa using h1, fun j x u hj hu => ?_⟩
      rw [List.getElem?_map] at hj
      cases hx : l[j]? with
      | none => rw [hx] at hj; cases hj
      | some y => rw [hx] at hj; cases hj; exact ih (h2 j y u hx hu)
    intro x v h
    cases h with
    | any v => exact .any v
    | t h => exact .t h
    | nl a => exact .nl a
    | ln => exact .any _
    | lp => exact .any _
    | @sl i k n hk' hc h0 =>
      simp only [upF]
      cases hg : g i with
      | none => exact .any _
      | some j =>
        obtain ⟨h1, h2⟩ := hk i k j hg hk'
        rw [← h2] at hc h0 ⊢
        exact .sl h1 hc h0
    | @sub i k off n a c hk' hn hm h0 ha =>
      simp only [upF]
      cases hg : g i with
      | none => exact .any _
      | some j =>
        obtain ⟨h1, h2⟩ := hk i k j hg hk'
        exact .sub h1 hn hm h0 (by rw [h2]; exact ha)
    | @ptr i off b hk' ha =>
      simp only [upF]
      cases hg : g i with
      | none => exact .any _
      | some j =>
        obtain ⟨h1, h2⟩ := hk i 0 j hg hk'
        exact .ptr h1 (by rw [h2]; exact ha)
    | @rp i k idx off hk' =>
      simp only [upF]
      cases hg : g i with
      | none => exact .any _
      | some j =>
        obtain ⟨h1, h2⟩ := hk i k j hg hk'
        rw [← h2]
        exact .rp h1
    | fn h1 h2 hu hv =>
      obtain ⟨a1, a2⟩ := pw h1 hu
      obtain ⟨b1, b2⟩ := pw h2 hv
      exact .fn a1 b1 a2 b2
    | agg h1 ho hu => obtain ⟨a1, a2⟩ := pw h1 hu; exact .agg a1 ho a2
    | tup h1 hu => obtain ⟨a1, a2⟩ := pw h1 hu; exact .tup a1 a2
theorem val_up {Kn Kn' : Nat → Nat → Prop} {ρ ρ' : Rho} {w : World} {Z Y Y' : Nat → Prop} {g : Nat → Option Nat} (hk : ∀ i k j, g i = some j → Kn i k → Kn' j k ∧ ρ' j k = ρ i k) {x : AV} {v : Value} (h : Val Kn ρ w Z Y x v) : Val Kn' ρ' w Z Y' (upA g x) v := val_upF hk 5 h
theorem upO_holds {Kn Kn' : Nat → Nat → Prop} {ρ ρ' : Rho} {w : World} {Z Y Y' : Nat → Prop} {g : Nat → Option Nat} (hk : ∀ i k j, g i = some j → Kn i k → Kn' j k ∧ ρ' j k = ρ i k) {i j : Nat} {o : Ob} (hρ : ∀ k, k < o.lim → ρ' j k = ρ i k) (h : o.holds (Val Kn ρ w Z Y) ρ w Z i) :
    (upO g o).holds (Val Kn' ρ' w Z Y') ρ' w Z j := by
  cases o with
  | box t cs =>
    obtain ⟨b, us, h1, h2, h3, h4⟩ := h
    refine ⟨b, us, by rw [hρ 0 (Nat.le_refl _)]; exact h1, h2, ⟨by rw [List.length_map]; exact h3.len, fun q x u hj hu => ?_⟩, h4⟩
    rw [List.getElem?_map] at hj
    cases hx : cs[q]? with
    | none => rw [hx] at hj; cases hj
    | some y => rw [hx] at hj; cases hj; exact val_up hk (h3.at_ q y u hx hu)
  | row k E s els =>
    obtain ⟨h1, xs, h2, h3⟩ := h
    have e := hρ k (Nat.le_refl _)
    exact ⟨by rw [e]; exact h1, xs, h2, by rw [e]; exact h3⟩
  | gone => trivial
  | hole => trivial
theorem upO_blk {ρ ρ' : Rho} {g : Nat → Option Nat} {i j : Nat} {o : Ob} (hρ : ∀ k, k < o.lim → ρ' j k = ρ i k) : (upO g o).blk ρ' j = o.blk ρ i := by
  cases o with
  | box t cs => simp only [upO, Ob.blk]; rw [hρ 0 (Nat.le_refl _)]
  | row k E s els => simp only [upO, Ob.blk]; rw [hρ k (Nat.le_refl _)]
  | gone => rfl
  | hole => rfl
theorem upO_lim {g : Nat → Option Nat} (o : Ob) : (upO g o).lim = o.lim := by cases o <;> rfl

/-! what is handed in -/
inductive Pass (heap : List Ob) (sel : List Nat) : AV → AV → Prop
  | any (x : AV) : Pass heap sel x .any
  | t (x : Tr) : Pass heap sel (.t x) (.t x)
  | lst (els : List (List Tr)) : Pass heap sel (.t (.lst els)) (.ln els)
  | nl : Pass heap sel .nl .nl
  | nln : Pass heap sel .nl (.ln [])
  | nlt : Pass heap sel .nl (.t (.lst []))
  | ln (els : List (List Tr)) : Pass heap sel (.ln els) (.ln els)
  | lp {cs cs' : List AV} (hl : cs.length = cs'.length) (h : ∀ (j : Nat) x y, cs[j]? = some x → cs'[j]? = some y → Pass heap sel x y) : Pass heap sel (.lp cs) (.lp cs')
  | sel {p i k m : Nat} (hs : sel[p]? = some i) : Pass heap sel (.sl i k m) (.sl p k m)
  | own {i k m : Nat} {E : TypeId} {s : Nat} {els : List (List Tr)} (hi : heap[i]? = some (.row k E s els)) (hn : sel.contains i = false) (hm : m ≤ els.length) : Pass heap sel (.sl i k m) (.ln (els.take m))
  | all {i k m : Nat} {E : TypeId} {s : Nat} {els : List (List Tr)} (hi : heap[i]? = some (.row k E s els)) (hn : sel.contains i = false) (hm : els.length = m) : Pass heap sel (.sl i k m) (.ln els)
  | sub {i k off m : Nat} {E : TypeId} {s : Nat} {els : List (List Tr)} (hi : heap[i]? = some (.row k E s els)) (hn : sel.contains i = false) (hm : off + m ≤ els.length) : Pass heap sel (.sub i k off m) (.ln ((els.drop off).take m))
  | ptr {p i off : Nat} (hs : sel[p]? = some i) : Pass heap sel (.ptr i off) (.ptr p off)
  | box {i off : Nat} {t : TypeId} {cs cs' : List AV} (hi : heap[i]? = some (.box t cs)) (hn : sel.contains i = false) (hl : (cs.drop off).length = cs'.length) (h : ∀ (j : Nat) x y, (cs.drop off)[j]? = some x → cs'[j]? = some y → Pass heap sel x y) : Pass heap sel (.ptr i off) (.lp cs')
  | fn {f : Fn} {a b a' b' : List AV} (h1 : a.length = a'.length) (h2 : b.length = b'.length) (ha : ∀ (j : Nat) x y, a[j]? = some x → a'[j]? = some y → Pass heap sel x y) (hb : ∀ (j : Nat) x y, b[j]? = some x → b'[j]? = some y → Pass heap sel x y) : Pass heap sel (.fn f a b) (.fn f a' b')
  | agg {l l' : List AV} (h1 : l.length = l'.length) (h : ∀ (j : Nat) x y, l[j]? = some x → l'[j]? = some y → Pass heap sel x y) : Pass heap sel (.agg l) (.agg l')
  | tup {l l' : List AV} (h1 : l.length = l'.length) (h : ∀ (j : Nat) x y, l[j]? = some x → l'[j]? = some y → Pass heap sel x y) : Pass heap sel (.tup l) (.tup l')
/-- The same, element by element. -/
inductive PassL (heap : List Ob) (sel : List Nat) : List AV → List AV → Prop
  | nil : PassL heap sel [] []
  | cons {x y : AV} {l l' : List AV} (h : Pass heap sel x y) (k : PassL heap sel l l') : PassL heap sel (x :: l) (y :: l')
theorem PassL.get {heap : List Ob} {sel : List Nat} {l l' : List AV} (h : PassL heap sel l l') : l.length = l'.length ∧ ∀ (j : Nat) x y, l[j]? = some x → l'[j]? = some y → Pass heap sel x y := by
  induction h with
  | nil => exact ⟨rfl, fun j x y h => by simp at h⟩
  | cons h k ih =>
    refine ⟨by simp [ih.1], fun j x y hj hy => ?_⟩
    cases j with
    | zero => simp at hj hy; subst hj hy; exact h
    | succ j => exact ih.2 j x y (by simpa using hj) (by simpa using hy)
theorem Pass.lpL {heap : List Ob} {sel : List Nat} {l l' : List AV} (h : PassL heap sel l l') : Pass heap sel (.lp l) (.lp l') := .lp h.get.1 h.get.2
theorem Pass.aggL {heap : List Ob} {sel : List Nat} {l l' : List AV} (h : PassL heap sel l l') : Pass heap sel (.agg l) (.agg l') := .agg h.get.1 h.get.2
theorem Pass.fnL {heap : List Ob} {sel : List Nat} {f : Fn} {a b a' b' : List AV} (h : PassL heap sel a a') (k : PassL heap sel b b') : Pass heap sel (.fn f a b) (.fn f a' b') := .fn h.get.1 k.get.1 h.get.2 k.get.2
theorem Pass.boxL {heap : List Ob} {sel : List Nat} {i off : Nat} {t : TypeId} {cs cs' : List AV} (hi : heap[i]? = some (.box t cs)) (hn : sel.contains i = false) {ds : List AV} (hd : cs.drop off = ds) (h : PassL heap sel ds cs') : Pass heap sel (.ptr i off) (.lp cs') := by
  subst hd
  exact .box hi hn h.get.1 h.get.2
/-- What is handed in, as the one who is called sees it. -/
theorem val_pass {heap H : List Ob} {sel : List Nat} {w : World} {ρ ρ0 : Rho} {Z Y Y0 : Nat → Prop} (hr : HRep heap w ρ Z Y) (hy : ∀ b, Y b → Y0 b) (hs : ∀ (p i k : Nat), sel[p]? = some i → Kn heap i k → Kn H p k ∧ ρ0 p k = ρ i k)
    (hb : ∀ (i : Nat) (o : Ob) (b : Nat), heap[i]? = some o → sel.contains i = false → o.blk ρ i = some b → Y0 b) {x y : AV} (h : Pass heap sel x y) : ∀ {v : Value}, Val (Kn heap) ρ w Z Y x v → Val (Kn H) ρ0 w Z Y0 y v := by
  have rowY : ∀ {i k : Nat} {E : TypeId} {s : Nat} {els : List (List Tr)}, heap[i]? = some (.row k E s els) → sel.contains i = false → ∀ {xs : List Value}, (Res.row (ρ i k).a els.length (ρ i k).c E s xs).holds 0 w → xs ≠ [] → Y0 (adr (ρ i k).a).block := by
    intro i k E s els hi hn xs hh hne
    refine hb i _ _ hi hn ?_
    rcases hh with ⟨_, _, e⟩ | ⟨hc, hh⟩
    · exact absurd e hne
    · simp only [Ob.blk]
      rw [if_neg (by omega)]
      cases ha : (ρ i k).a with
      | some b => rfl
      | none =>
        rw [ha] at hh
        rcases hh.2 with ⟨e, _⟩ | ⟨g, cap, cur, e, _⟩
        · simp only [Value.slice.injEq] at e; omega
        · simp at e
  have pw : ∀ {l l' : List AV} {us : List Value}, l.length = l'.length → l.length = us.length → (∀ (j : Nat) x y, l[j]? = some x → l'[j]? = some y → ∀ {v : Value}, Val (Kn heap) ρ w Z Y x v → Val (Kn H) ρ0 w Z Y0 y v) → (∀ (j : Nat) x u, l[j]? = some x → us[j]? = some u → Val (Kn heap) ρ w Z Y x u) →
      ∀ (j : Nat) y u, l'[j]? = some y → us[j]? = some u → Val (Kn H) ρ0 w Z Y0 y u := by
    intro l l' us e1 e2 ih hv j y u hj hu
    have hlt := get_lt hj
    rw [← e1] at hlt
    exact ih j _ y (List.getElem?_eq_getElem hlt) hj (hv j _ u (List.getElem?_eq_getElem hlt) hu)
  induction h with
  | any x => intro v _; exact .any v
  | t x => intro v hv; cases hv with | t h => exact .t h
  | lst els => intro v hv; cases hv with
    | t h => obtain ⟨a, c, s, xs, rfl, h2, h3, h4⟩ := h.open; exact .ln h2 (fun hne => hy _ (hr.zy _ (h3 hne))) rfl h4
  | nl => intro v hv; cases hv with | nl a => exact .nl a
  | nln => intro v hv; cases hv with
    | nl a => exact .ln (size := 0) (xs := []) ⟨Nat.le_refl _, Nat.zero_le _, fun _ => ⟨rfl, rfl⟩, rfl, fun j u h => by simp at h⟩ (fun h => absurd rfl h) rfl .nil
  | nlt => intro v hv; cases hv with
    | nl a => exact .t (.shut (size := 0) (xs := []) rfl ⟨Nat.le_refl _, Nat.zero_le _, fun _ => ⟨rfl, rfl⟩, rfl, fun j u h => by simp at h⟩ (fun h => absurd rfl h) .nil)
  | ln els => intro v hv; cases hv with
    | ln h1 h2 h3 h4 => exact .ln h1 (fun hne => hy _ (h2 hne)) h3 h4
  | lp hl h ih => intro v hv; cases hv with
    | @lp _ p us h1 h2 h3 h4 => exact .lp (by rw [← hl]; exact h1) h2 (fun j u hu => ⟨hy _ (h3 j u hu).1, (h3 j u hu).2⟩) (fun j y u hj hu => pw hl h1 ih h4 j y u hj hu)
  | sel h => intro v hv; cases hv with
    | sl hk hc h0 => obtain ⟨h1, h2⟩ := hs _ _ _ h hk; rw [← h2] at hc h0 ⊢; exact .sl h1 hc h0
  | own hi hn hm => intro v hv; cases hv with
    | sl hk hc _ =>
      obtain ⟨h1, xs, h2, h3, h4⟩ := hr.row hi
      exact .ln (rs_take h4 hm) (fun hne => rowY hi hn h3 (fun e => by rw [e] at hne; simp at hne)) (by rw [List.length_take]; omega) (h2.take _)
  | all hi hn hm => intro v hv; cases hv with
    | sl hk hc _ =>
      obtain ⟨h1, xs, h2, h3, h4⟩ := hr.row hi
      subst hm
      exact .ln h4 (fun hne => rowY hi hn h3 hne) rfl h2
  | @sub i k off m E s els hi hn hm => intro v hv; cases hv with
    | @sub _ _ _ _ a c hk hn' hmx h0 ha =>
      obtain ⟨h1, xs, h2, h3, h4⟩ := hr.row hi
      have e : ((els.drop off).take m).length = m := by rw [List.length_take, List.length_drop]; omega
      have hm0 : ∀ {q : List Value}, q = (xs.drop (off * s)).take (m * s) → q ≠ [] → m ≠ 0 := fun e1 hne e2 => hne (by rw [e1, e2]; simp)
      refine .ln (size := s) (xs := (xs.drop (off * s)).take (m * s)) ⟨hn', hmx, h0, ?_, fun j u hj => ?_⟩ (fun hne => ?_) e ((h2.drop off).take m)
      · have := ((h2.drop off).take m).len
        rw [e] at this; exact this
      · have hne := hm0 rfl (fun e => by rw [e] at hj; simp at hj)
        rw [List.getElem?_take] at hj
        split at hj
        · rw [ha hne, List.getElem?_drop] at *
          show w.cell? (Addr.add ((adr (ρ i k).a).add _) j) = _
          rw [add_add, h1]
          exact h4.cells _ u hj
        · cases hj
      · have hne' := hm0 rfl hne
        rw [ha hne']
        show Y0 (Addr.add _ _).block
        rw [add_block]
        exact rowY hi hn h3 (fun e => by rw [e] at hne; simp at hne)
  | ptr h => intro v hv; cases hv with
    | ptr hk ha => obtain ⟨h1, h2⟩ := hs _ _ _ h hk; exact .ptr h1 (by rw [h2]; exact ha)
  | @box i off t cs cs' hi hn hl h ih =>
    intro v hv
    obtain ⟨b, us, rfl, h1, h2, h3, h4⟩ := hr.box hi hv
    have hY : Y0 b := hb i _ b hi hn (by simp [Ob.blk, h1])
    have e2 := h3.len
    refine .lp (us := us.drop off) (by rw [← hl]; simp [e2]) (fun u hu => h4 u (List.mem_of_mem_drop hu)) (fun j u hj => ?_) (fun j y u hj hu => ?_)
    · rw [List.getElem?_drop] at hj
      refine ⟨hY, ?_⟩
      rw [add_at, cell_of_row w b _ _ _ _ h2]
      simpa using hj
    · refine pw (l := cs.drop off) (us := us.drop off) hl (by simp [e2]) ih (fun j x u hj hu => ?_) j y u hj hu
      rw [List.getElem?_drop] at hj hu
      exact h3.at_ _ x u hj hu
  | fn h1 h2 ha hb ih1 ih2 => intro v hv; cases hv with
    | fn e1 e2 hu hv => exact .fn (by rw [← h1]; exact e1) (by rw [← h2]; exact e2) (pw h1 e1 ih1 hu) (pw h2 e2 ih2 hv)
  | agg h1 h ih => intro v hv; cases hv with
    | agg e1 ho hu => exact .agg (by rw [← h1]; exact e1) ho (pw h1 e1 ih hu)
  | tup h1 h ih => intro v hv; cases hv with
    | tup e1 hu => exact .tup (by rw [← h1]; exact e1) (pw h1 e1 ih hu)
/-! contracts -/
def C (P : Program) (f : FuncId) (args : List AV) (H : List Ob) (R : AV → List Ob → Prop) : Prop :=
  ∀ (e : Env) (vs : List Value), e.H = H → HRep H e.W e.ρ e.Z e.Y → (∀ (i : Nat) (o : Ob) (b : Nat), H[i]? = some o → o.blk e.ρ i = some b → e.D b) → AVs (Val (Kn H) e.ρ e.W e.Z e.Y) args vs →
    Calls P f vs.toArray e.W fun en w' => ∃ v r heap ρ Z Y, en = .returned v ∧ R r heap ∧ Ok e heap w' ρ Z Y ∧ Val (Kn heap) ρ w' Z Y r v
def shiftG (N : Nat) : Nat → Option Nat := fun i => some (N + i)
section
variable {P : Program} {ops : Array Oper} {Q : QS} {rest : List Oper} {o : Oper} {n : Fr} {T : Nat → AV} {heap : List Ob} {d : Nat}
/-- What comes back from a call that was handed no object: it stands behind what there was. -/
theorem Ok.back {e : Env} {w w' : World} {ρ ρ1 : Rho} {Z Y Z1 Y1 : Nat → Prop} (h : Ok e heap w ρ Z Y) {e1 : Env} (hW : e1.W = w) (hD : ∀ b, e1.D b ↔ w.heap.size ≤ b) (hZ : e1.Z = Z) {L : List Ob} (k : Ok e1 L w' ρ1 Z1 Y1) {N : Nat} {heap' : List Ob} (hat : AtL heap N (L.map (upO (shiftG N))) heap') :
    ∃ ρ', Ok e heap' w' ρ' Z1 (fun b => Y b ∨ Z1 b) ∧ (∀ x v, Val (Kn heap) ρ w Z Y x v → Val (Kn heap') ρ' w' Z1 (fun b => Y b ∨ Z1 b) x v) ∧
      ∀ x v, Val (Kn L) ρ1 w' Z1 Y1 x v → Val (Kn heap') ρ' w' Z1 (fun b => Y b ∨ Z1 b) (upA (shiftG N) x) v := by
  let ρ' : Rho := fun j q => if N ≤ j ∧ j < N + L.length then ρ1 (j - N) q else ρ j q
  have hρ : ∀ j q, Kn heap j q → ρ' j q = ρ j q := fun j q hj => if_neg fun hc => (hat.kn hj).2 (j - N) (by simp; omega) (by omega)
  have hρ1 : ∀ i q, i < L.length → ρ' (N + i) q = ρ1 i q := fun i q hi => by
    show (if N ≤ N + i ∧ N + i < N + L.length then _ else _) = _
    rw [if_pos ⟨by omega, by omega⟩, Nat.add_sub_cancel_left]
  have hsz : w.heap.size ≤ w'.heap.size := by have := k.size; rw [hW] at this; exact this
  have hsame : ∀ b, b < w.heap.size → w'.heap[b]? = w.heap[b]? := fun b hb => by
    have := k.keep b (fun h => by have := (hD b).1 h; omega)
    rw [hW] at this; exact this
  have hz : ∀ b, Z b → Z1 b := fun b hb => k.z0 b (by rw [hZ]; exact hb)
  have hz1 : ∀ b, Z1 b → Z b ∨ (w.heap.size ≤ b ∧ b < w'.heap.size) := fun b hb => by
    rcases k.zone b hb with h1 | h1
    · rw [hZ] at h1; exact .inl h1
    · exact .inr ⟨(hD b).1 h1, k.rep.ylt b (k.rep.zy b hb)⟩
  have up : ∀ i q j, shiftG N i = some j → Kn L i q → Kn heap' j q ∧ ρ' j q = ρ1 i q := by
    rintro i q j hj ⟨p, hp, hq⟩
    cases hj
    exact ⟨⟨upO (shiftG N) p, hat.new (by rw [List.getElem?_map, hp]; rfl), by rw [upO_lim]; exact hq⟩, hρ1 i q (get_lt hp)⟩
  have getL : ∀ (q : Nat) (p : Ob), (L.map (upO (shiftG N)))[q]? = some p → ∃ p', L[q]? = some p' ∧ p = upO (shiftG N) p' := fun q p hq => by
    rw [List.getElem?_map] at hq
    cases hl : L[q]? with
    | none => rw [hl] at hq; cases hq
    | some p' => rw [hl] at hq; cases hq; exact ⟨p', rfl, rfl⟩
  have blk : ∀ (q : Nat) (p : Ob), L[q]? = some p → (upO (shiftG N) p).blk ρ' (N + q) = p.blk ρ1 q := fun q p hq => upO_blk fun m _ => hρ1 q m (get_lt hq)
  have hok : Ok e heap' w' ρ' Z1 (fun b => Y b ∨ Z1 b) := by
    refine h.push hat hρ ⟨by rw [k.os, hW], by rw [k.tape, hW], by rw [k.output, hW]⟩ hsz hsame hz (fun b hb => .inl hb) (fun b hb => .inr hb) (fun b hb => ?_) hz1 (fun q p hq => ?_) (fun q r p p' b hq hr hp hp' => ?_) (fun q p b hq hp => ?_)
    · rcases hb with hb | hb
      · exact .inl hb
      · rcases hz1 b hb with h1 | h1
        · exact .inl (h.rep.zy b h1)
        · exact .inr h1
    · obtain ⟨p', e1, rfl⟩ := getL q p hq
      exact upO_holds up (fun m _ => hρ1 q m (get_lt e1)) (k.rep.obs q p' e1)
    · obtain ⟨p1, e1, rfl⟩ := getL q p hq
      obtain ⟨p2, e2, rfl⟩ := getL r p' hr
      rw [blk q p1 e1] at hp
      rw [blk r p2 e2] at hp'
      exact k.rep.apart q r p1 p2 b e1 e2 hp hp'
    · obtain ⟨p1, e1, rfl⟩ := getL q p hq
      rw [blk q p1 e1] at hp
      have h1 := k.dom q p1 b e1 hp
      have h2 := k.rep.own q p1 b e1 hp
      refine ⟨(hD b).1 h1, h2.1, fun hb => ?_⟩
      rcases hb with hb | hb
      · have := h.rep.ylt b hb; have := (hD b).1 h1; omega
      · exact h2.2 (k.rep.zy b hb)
  refine ⟨ρ', hok, fun x v hv => ?_, fun x v hv => val_up up hv⟩
  exact h.rep.val (fun j q hj => ⟨(hat.kn hj).1, hρ j q hj⟩) hz (fun b hb => ⟨.inl hb, hsame b (h.rep.ylt b hb)⟩) hv
/-- The call's own record, at a call that is handed no object. -/
def callEnv (w : World) (ρ : Rho) (Z : Nat → Prop) : Env := { W := w, D := fun b => w.heap.size ≤ b, H := [], ρ := ρ, Z := Z, Y := fun b => b < w.heap.size, big := fun _ h => h, yd := fun b h1 h2 => by omega }
theorem callEnv_rep {w : World} {ρ : Rho} {Z Y : Nat → Prop} (h : HRep heap w ρ Z Y) : HRep [] w ρ Z (fun b => b < w.heap.size) :=
  ⟨fun i o h => by simp at h, fun i j o o' b h => by simp at h, fun i o b h => by simp at h, fun b hb => h.ylt b (h.zy b hb), fun b hb => hb⟩
theorem callEnv_val {w : World} {ρ : Rho} {Z Y : Nat → Prop} (h : HRep heap w ρ Z Y) {x y : AV} (hp : Pass heap [] x y) {v : Value} (hv : Val (Kn heap) ρ w Z Y x v) : Val (Kn []) ρ w Z (fun b => b < w.heap.size) y v :=
  val_pass h (fun b hb => h.ylt b hb) (fun p i k hp => by simp at hp) (fun i o b hi _ hb => (h.own i o b hi hb).1) hp hv
/-- A call that is handed no object. -/
theorem A_call (hw : wantedA n T ops o = true) (hd : o.dst = some d) {f : FuncId} {fn : Func} (hf : P.funcs[f]? = some fn) (hn : (fn.name == "runtime.NumGoroutine") = false) (hb : fn.body.isNone = false) {args : Array Operand} {tys : Array TypeId}
    (ho : o.op = .call { callee := .value (.func f), args := args, argTypes := tys }) {xs : List AV} {R : AV → List Ob → Prop} (hp : PassL heap [] (args.toList.map (evA n T)) xs) (hc : C P f xs [] R) (N : Nat)
    (k : ∀ r L, R r L → ∃ heap', AtL heap N (L.map (upO (shiftG N))) heap' ∧ AL P ops Q rest n (pu T d (upA (shiftG N) r)) heap') : AL P ops Q (o :: rest) n T heap := by
  rintro e a w ⟨ρ, Z, Y, hR⟩
  have hrep := hR.ok.rep
  obtain ⟨hl, hg⟩ := hp.get
  refine wpList_do (hR.wanted hw) fun K hK => ?_
  unfold Oper.wp
  rw [run_fun hf hn hb ho (args.toList.map a.eval) rfl w]
  refine Calls.mono (hc (callEnv w ρ Z) (args.toList.map a.eval) rfl (callEnv_rep hrep) (fun i o b h => by simp at h) ⟨by simp at hl ⊢; omega, fun j x u hj hu => ?_⟩) ?_
  · rw [List.getElem?_map] at hu
    cases hx : args.toList[j]? with
    | none => rw [hx] at hu; cases hu
    | some y =>
      rw [hx] at hu; cases hu
      exact callEnv_val hrep (hg j (evA n T y) x (by rw [List.getElem?_map, hx]; rfl) hj) (hR.eval y)
  · rintro en w' ⟨v, r, L, ρ1, Z1, Y1, rfl, hRr, hok, hv⟩
    obtain ⟨heap', hat, kk⟩ := k r L hRr
    obtain ⟨ρ', k1, k2, k3⟩ := Ok.back (heap := heap) hR.ok (e1 := callEnv w ρ Z) rfl (fun b => Iff.rfl) rfl hok hat
    refine hK _ _ (kk e _ _ ⟨ρ', Z1, fun b => Y b ∨ Z1 b, ?_⟩)
    rw [hd]
    exact (hR.move k1 k2).put d (k3 r v hv)
end
end Go.Proofs.Ytkichjejadkdgaa
