/- The same renaming, in one and the same call: what is lent stays lent. No program in sight. (Copied from XTCall and XTCtl by a program.) -/
import Derived.Test.YtkichjejadkdgaaTWalk
namespace Go.Proofs.Ytkichjejadkdgaa
set_option linter.unusedVariables false
set_option linter.unusedSimpArgs false
set_option linter.unnecessarySimpa false
open Go.RowKit
def upK (g : Nat → Option Nat) : Nat → AV → AV
  | 0, _ => .any
  | k + 1, x => match x with
    | .t x => .t x
    | .nl => .nl
    | .sl i k n => match g i with | some j => .sl j k n | none => .any
    | .sub i k off n => match g i with | some j => .sub j k off n | none => .any
    | .ptr i off => match g i with | some j => .ptr j off | none => .any
    | .rp i k idx off => match g i with | some j => .rp j k idx off | none => .any
    | .fn f a b => .fn f (a.map (upK g k)) (b.map (upK g k))
    | .agg l => .agg (l.map (upK g k))
    | .tup l => .tup (l.map (upK g k))
    | .any => .any
    | .ln l => .ln l
    | .lp l => .lp (l.map (upK g k))
def upB (g : Nat → Option Nat) (x : AV) : AV := upK g 5 x
def upP (g : Nat → Option Nat) : Ob → Ob
  | .box t cs => .box t (cs.map (upB g))
  | .row k E s els => .row k E s els
  | .gone k => .gone k
  | .hole => .hole
theorem val_upK {Kn Kn' : Nat → Nat → Prop} {ρ ρ' : Rho} {w : World} {Z Y : Nat → Prop} {g : Nat → Option Nat} (hk : ∀ i k j, g i = some j → Kn i k → Kn' j k ∧ ρ' j k = ρ i k) : ∀ (q : Nat) {x : AV} {v : Value}, Val Kn ρ w Z Y x v → Val Kn' ρ' w Z Y (upK g q x) v := by
  intro q
  induction q with
  | zero => intro x v _; exact .any v
  | succ q ih =>
    have pw : ∀ {l : List AV} {us : List Value}, l.length = us.length → (∀ (j : Nat) x u, l[j]? = some x → us[j]? = some u → Val Kn ρ w Z Y x u) → (l.map (upK g q)).length = us.length ∧ ∀ (j : Nat) x u, (l.map (upK g q))[j]? = some x → us[j]? = some u → Val Kn' ρ' w Z Y x u := fun {l us} h1 h2 => by
      refine ⟨by simpa using h1, fun j x u hj hu => ?_⟩
      rw [List.getElem?_map] at hj
      cases hx : l[j]? with
      | none => rw [hx] at hj; cases hj
      | some y => rw [hx] at hj; cases hj; exact ih (h2 j y u hx hu)
    intro x v h
    cases h with
    | any v => exact .any v
    | t h => exact .t h
    | nl a => exact .nl a
    | ln hr hz hn he => exact .ln hr hz hn he
    | lp hl ho hc hv => exact .lp (by simpa using hl) ho hc (pw hl hv).2
    | @sl i k n hk' hc h0 =>
      simp only [upK]
      cases hg : g i with
      | none => exact .any _
      | some j =>
        obtain ⟨h1, h2⟩ := hk i k j hg hk'
        rw [← h2] at hc h0 ⊢
        exact .sl h1 hc h0
    | @sub i k off n a c hk' hn hm h0 ha =>
      simp only [upK]
      cases hg : g i with
      | none => exact .any _
      | some j =>
        obtain ⟨h1, h2⟩ := hk i k j hg hk'
        exact .sub h1 hn hm h0 (by rw [h2]; exact ha)
    | @ptr i off b hk' ha =>
      simp only [upK]
      cases hg : g i with
      | none => exact .any _
      | some j =>
        obtain ⟨h1, h2⟩ := hk i 0 j hg hk'
        exact .ptr h1 (by rw [h2]; exact ha)
    | @rp i k idx off hk' =>
      simp only [upK]
      cases hg : g i with
      | none => exact .any _
      | some j =>
        obtain ⟨h1, h2⟩ := hk i k j hg hk'
        rw [← h2]
        exact .rp h1
    | fn h1 h2 hu hv =>
      obtain ⟨a1, a2⟩ := pw h1 hu
      obtain ⟨b1, b2⟩ := pw h2 hv
      exact .fn a1 b1 a2 b2
    | agg h1 ho hu => obtain ⟨a1, a2⟩ := pw h1 hu; exact .agg a1 ho a2
    | tup h1 hu => obtain ⟨a1, a2⟩ := pw h1 hu; exact .tup a1 a2
theorem val_upB {Kn Kn' : Nat → Nat → Prop} {ρ ρ' : Rho} {w : World} {Z Y : Nat → Prop} {g : Nat → Option Nat} (hk : ∀ i k j, g i = some j → Kn i k → Kn' j k ∧ ρ' j k = ρ i k) {x : AV} {v : Value} (h : Val Kn ρ w Z Y x v) : Val Kn' ρ' w Z Y (upB g x) v := val_upK hk 5 h
theorem upP_holds {Kn Kn' : Nat → Nat → Prop} {ρ ρ' : Rho} {w : World} {Z Y : Nat → Prop} {g : Nat → Option Nat} (hk : ∀ i k j, g i = some j → Kn i k → Kn' j k ∧ ρ' j k = ρ i k) {i j : Nat} {o : Ob} (hρ : ∀ k, k < o.lim → ρ' j k = ρ i k) (h : o.holds (Val Kn ρ w Z Y) ρ w Z i) :
    (upP g o).holds (Val Kn' ρ' w Z Y) ρ' w Z j := by
  cases o with
  | box t cs =>
    obtain ⟨b, us, h1, h2, h3, h4⟩ := h
    refine ⟨b, us, by rw [hρ 0 (Nat.le_refl _)]; exact h1, h2, ⟨by rw [List.length_map]; exact h3.len, fun q x u hj hu => ?_⟩, h4⟩
    rw [List.getElem?_map] at hj
    cases hx : cs[q]? with
    | none => rw [hx] at hj; cases hj
    | some y => rw [hx] at hj; cases hj; exact val_upB hk (h3.at_ q y u hx hu)
  | row k E s els =>
    obtain ⟨h1, xs, h2, h3⟩ := h
    have e := hρ k (Nat.le_refl _)
    exact ⟨by rw [e]; exact h1, xs, h2, by rw [e]; exact h3⟩
  | gone => trivial
  | hole => trivial
theorem upP_blk {ρ ρ' : Rho} {g : Nat → Option Nat} {i j : Nat} {o : Ob} (hρ : ∀ k, k < o.lim → ρ' j k = ρ i k) : (upP g o).blk ρ' j = o.blk ρ i := by
  cases o with
  | box t cs => simp only [upP, Ob.blk]; rw [hρ 0 (Nat.le_refl _)]
  | row k E s els => simp only [upP, Ob.blk]; rw [hρ k (Nat.le_refl _)]
  | gone => rfl
  | hole => rfl
theorem upP_lim {g : Nat → Option Nat} (o : Ob) : (upP g o).lim = o.lim := by cases o <;> rfl
section
variable {P : Program} {Q : QS} {n : Fr} {T : Nat → AV} {heap : List Ob} {d : Nat}
theorem Ok.sel2 {e : Env} {w : World} {ρ : Rho} {Z Y : Nat → Prop} (h : Ok e heap w ρ Z Y) {heap' : List Ob} (f : Nat → Nat) (g : Nat → Option Nat) (hinj : ∀ i j, i < heap'.length → j < heap'.length → f i = f j → i = j)
    (hget : ∀ (j : Nat) (o' : Ob), heap'[j]? = some o' → ∃ o, heap[f j]? = some o ∧ o' = upP g o) (hg : ∀ i j, i < heap.length → g i = some j → f j = i ∧ j < heap'.length) (hH : ∀ i, i < e.H.length → i < heap.length → i < heap'.length ∧ f i = i) :
    ∃ ρ', Ok e heap' w ρ' Z Y ∧ ∀ x v, Val (Kn heap) ρ w Z Y x v → Val (Kn heap') ρ' w Z Y (upB g x) v := by
  let ρ' : Rho := fun j k => ρ (f j) k
  have kn : ∀ (j k : Nat), j < heap'.length → Kn heap (f j) k → Kn heap' j k := fun j k hj ⟨o, ho, hk⟩ => by
    obtain ⟨o1, h1, h2⟩ := hget j _ (List.getElem?_eq_getElem hj)
    rw [ho] at h1; cases h1
    exact ⟨_, List.getElem?_eq_getElem hj, by rw [h2, upP_lim]; exact hk⟩
  have up : ∀ i k j, g i = some j → Kn heap i k → Kn heap' j k ∧ ρ' j k = ρ i k := fun i k j hj hk => by
    have hlt : i < heap.length := hk.elim fun _ h => get_lt h.1
    obtain ⟨h1, h2⟩ := hg i j hlt hj
    subst h1
    exact ⟨kn j k h2 hk, rfl⟩
  have hval : ∀ x v, Val (Kn heap) ρ w Z Y x v → Val (Kn heap') ρ' w Z Y (upB g x) v := fun x v hv => val_upB up hv
  have blk : ∀ (j : Nat) (o : Ob), (upP g o).blk ρ' j = o.blk ρ (f j) := fun j o => upP_blk fun k _ => rfl
  refine ⟨ρ', ⟨⟨fun j o' hj => ?_, fun i j o o' b hi hj hp hq => ?_, fun j o' b hj hp => ?_, h.rep.zy, h.rep.ylt⟩, fun j o' b hj hp => ?_, h.zone, h.z0, h.y0, fun i k hk => ?_, h.os, h.tape, h.output, h.size, h.keep⟩, hval⟩
  · obtain ⟨o, h1, rfl⟩ := hget j o' hj
    exact upP_holds up (fun k _ => rfl) (h.rep.obs _ o h1)
  · obtain ⟨p, h1, rfl⟩ := hget i o hi
    obtain ⟨q, h2, rfl⟩ := hget j o' hj
    rw [blk] at hp hq
    exact hinj i j (get_lt hi) (get_lt hj) (h.rep.apart _ _ p q b h1 h2 hp hq)
  · obtain ⟨o, h1, rfl⟩ := hget j o' hj
    rw [blk] at hp
    exact h.rep.own _ o b h1 hp
  · obtain ⟨o, h1, rfl⟩ := hget j o' hj
    rw [blk] at hp
    exact h.dom _ o b h1 hp
  · obtain ⟨h1, h2⟩ := h.rho i k hk
    have hi : i < e.H.length := by obtain ⟨o, ho, _⟩ := hk; exact get_lt ho
    have hi' : i < heap.length := by obtain ⟨o, ho, _⟩ := h1; exact get_lt ho
    obtain ⟨h3, h4⟩ := hH i hi hi'
    refine ⟨kn i k h3 (by rw [h4]; exact h1), ?_⟩
    show ρ (f i) k = _
    rw [h4]; exact h2
/-- Slots that are forgotten, or kept. -/
def Fk (g : Nat → Option Nat) (T T' : Nat → AV) : Prop := ∀ t, T' t = .any ∨ T' t = upB g (T t)
theorem Fk.nil {g : Nat → Option Nat} : Fk g T (fun _ => .any) := fun _ => .inl rfl
theorem Fk.pu {g : Nat → Option Nat} {T' : Nat → AV} {d : Nat} {x : AV} (hx : upB g (T d) = x) (k : Fk g T T') : Fk g T (pu T' d x) := fun t => by
  cases hb : Nat.beq t d with
  | true =>
    have := Nat.eq_of_beq_eq_true hb
    subst this
    simp only [Go.Proofs.Ytkichjejadkdgaa.pu, Nat.beq_refl, cond_true]
    exact .inr hx.symm
  | false =>
    simp only [Go.Proofs.Ytkichjejadkdgaa.pu, hb, cond_false]
    exact k t
theorem Wk.cut2 {T' : Nat → AV} {heap' : List Ob} (m : Nat) (hm : n.h ≤ m) (hh : (heap.take m).map (upP (keepG m)) = heap') (hT : Fk (keepG m) T T') : Wk n T heap T' heap' := by
  subst hh
  rintro e a w ⟨ρ, Z, Y, hR⟩
  have hlen : ((heap.take m).map (upP (keepG m))).length = min m heap.length := by simp
  obtain ⟨ρ', k1, k2⟩ := Ok.sel2 (heap := heap) hR.ok (heap' := (heap.take m).map (upP (keepG m))) id (keepG m) (fun i j _ _ h => h) (fun j o' hj => by
    rw [List.getElem?_map, List.getElem?_take] at hj
    split at hj
    · cases hx : heap[j]? with
      | none => rw [hx] at hj; cases hj
      | some o => rw [hx] at hj; cases hj; exact ⟨o, hx, rfl⟩
    · cases hj) (fun i j hi hj => by
    obtain ⟨rfl, h2⟩ := keepG_some hj
    exact ⟨rfl, by rw [hlen]; omega⟩) (fun i h1 h2 => by
    have h3 : e.H.length ≤ n.h := hR.hl
    exact ⟨by rw [hlen]; omega, rfl⟩)
  refine ⟨ρ', Z, Y, k1, hR.defers, hR.n, hR.hl, fun t v ht => ?_⟩
  rcases hT t with h | h
  · show Val _ _ _ _ _ (T' t) _
    rw [h]; exact .any _
  · show Val _ _ _ _ _ (T' t) _
    rw [h]; exact k2 _ _ (hR.at_ t v ht)
end
end Go.Proofs.Ytkichjejadkdgaa
