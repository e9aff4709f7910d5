/- The end of a function: what is kept (K), under new numbers, all versions from 0 again; lists may be written in other words. No program in sight. -/
import Derived.Test.YtkichjejadkdgaaTIo
namespace Go.Proofs.Ytkichjejadkdgaa
set_option linter.unusedVariables false
set_option linter.unusedSimpArgs false
set_option linter.unnecessarySimpa false
open Go.RowKit
inductive VR (heap : List Ob) (h : Nat) (K : List Nat) : AV → AV → Prop
  | any (x : AV) : VR heap h K x .any
  | t {x y : Tr} (he : x = y) : VR heap h K (.t x) (.t y)
  | nl : VR heap h K .nl .nl
  | old {i k n n' : Nat} (hi : Nat.blt i h = true) (hn : n = n') : VR heap h K (.sl i k n) (.sl i k n')
  | new {i j k n n' : Nat} {E : TypeId} {s : Nat} {els : List (List Tr)} (hj : Nat.ble h j = true) (hq : K[j - h]? = some i) (hi : heap[i]? = some (.row k E s els)) (hn : n = n') : VR heap h K (.sl i k n) (.sl j 0 n')
  | optr {i off : Nat} (hi : Nat.blt i h = true) : VR heap h K (.ptr i off) (.ptr i off)
  | nptr {i j off : Nat} {t : TypeId} {cs : List AV} (hj : Nat.ble h j = true) (hq : K[j - h]? = some i) (hi : heap[i]? = some (.box t cs)) : VR heap h K (.ptr i off) (.ptr j off)
  | agg {l l' : List AV} (h1 : l.length = l'.length) (hp : ∀ (j : Nat) x y, l[j]? = some x → l'[j]? = some y → VR heap h K x y) : VR heap h K (.agg l) (.agg l')
  | tup {l l' : List AV} (h1 : l.length = l'.length) (hp : ∀ (j : Nat) x y, l[j]? = some x → l'[j]? = some y → VR heap h K x y) : VR heap h K (.tup l) (.tup l')
inductive VRL (heap : List Ob) (h : Nat) (K : List Nat) : List AV → List AV → Prop
  | nil : VRL heap h K [] []
  | cons {x y : AV} {l l' : List AV} (hx : VR heap h K x y) (k : VRL heap h K l l') : VRL heap h K (x :: l) (y :: l')
theorem VRL.get {heap : List Ob} {h : Nat} {K : List Nat} {l l' : List AV} (hl : VRL heap h K l l') : l.length = l'.length ∧ ∀ (j : Nat) x y, l[j]? = some x → l'[j]? = some y → VR heap h K x y := by
  induction hl with
  | nil => exact ⟨rfl, fun j x y h => by simp at h⟩
  | cons h k ih =>
    refine ⟨by simp [ih.1], fun j x y hj hy => ?_⟩
    cases j with
    | zero => simp at hj hy; subst hj hy; exact h
    | succ j => exact ih.2 j x y (by simpa using hj) (by simpa using hy)
theorem VR.aggL {heap : List Ob} {h : Nat} {K : List Nat} {l l' : List AV} (hl : VRL heap h K l l') : VR heap h K (.agg l) (.agg l') := .agg hl.get.1 hl.get.2
theorem VR.tupL {heap : List Ob} {h : Nat} {K : List Nat} {l l' : List AV} (hl : VRL heap h K l l') : VR heap h K (.tup l) (.tup l') := .tup hl.get.1 hl.get.2
/-- An object, at the end; r: its versions begin again. -/
inductive VO (heap : List Ob) (h : Nat) (K : List Nat) : Bool → Ob → Ob → Prop
  | row {k : Nat} {E : TypeId} {s : Nat} {els els' : List (List Tr)} (he : els = els') : VO heap h K false (.row k E s els) (.row k E s els')
  | rset {k : Nat} {E : TypeId} {s : Nat} {els els' : List (List Tr)} (he : els = els') : VO heap h K true (.row k E s els) (.row 0 E s els')
  | box {r : Bool} {t : TypeId} {cs cs' : List AV} (hl : VRL heap h K cs cs') : VO heap h K r (.box t cs) (.box t cs')
  | gone {k : Nat} : VO heap h K false (.gone k) (.gone k)
/-- Those that were handed in (the first ones), then those of K. -/
inductive VH (heap : List Ob) (h : Nat) (K : List Nat) : Bool → List Nat → List Ob → Prop
  | nil {r : Bool} : VH heap h K r [] []
  | cons {r : Bool} {i : Nat} {o o' : Ob} {l : List Nat} {L : List Ob} (hi : heap[i]? = some o) (ho : VO heap h K r o o') (k : VH heap h K r l L) : VH heap h K r (i :: l) (o' :: L)
theorem VH.get {heap : List Ob} {h : Nat} {K : List Nat} {r : Bool} {l : List Nat} {L : List Ob} (hl : VH heap h K r l L) : l.length = L.length ∧ ∀ (p i : Nat), l[p]? = some i → ∃ o o', heap[i]? = some o ∧ L[p]? = some o' ∧ VO heap h K r o o' := by
  induction hl with
  | nil => exact ⟨rfl, fun p i h => by simp at h⟩
  | @cons i o o' l L hi ho k ih =>
    refine ⟨by simp [ih.1], fun p j hp => ?_⟩
    cases p with
    | zero => simp at hp; subst hp; exact ⟨o, o', hi, rfl, ho⟩
    | succ p => exact ih.2 p j (by simpa using hp)
section
variable {P : Program} {Q : QS} {n : Fr} {T : Nat → AV} {heap : List Ob}
theorem Ok.fin {e : Env} {w : World} {ρ : Rho} {Z Y : Nat → Prop} (hk : Ok e heap w ρ Z Y) {h : Nat} {K : List Nat} (he : e.H.length ≤ h) (hK : K.Nodup) (hK1 : ∀ i ∈ K, h ≤ i) {L1 L2 : List Ob} (h1 : VH heap h K false (List.range h) L1) (h2 : VH heap h K true K L2) :
    ∃ ρ', Ok e (L1 ++ L2) w ρ' Z Y ∧ ∀ x y v, VR heap h K x y → Val (Kn heap) ρ w Z Y x v → Val (Kn (L1 ++ L2)) ρ' w Z Y y v := by
  obtain ⟨l1, g1⟩ := h1.get
  obtain ⟨l2, g2⟩ := h2.get
  simp only [List.length_range] at l1
  let f : Nat → Nat := fun j => if j < h then j else K.getD (j - h) 0
  let ρ' : Rho := fun j k => if j < h then ρ j k else match heap[K.getD (j - h) 0]? with
    | some o => ρ (K.getD (j - h) 0) (o.lim - 1)
    | none => ρ 0 0
  have get : ∀ (j : Nat) (o' : Ob), (L1 ++ L2)[j]? = some o' → ∃ o, heap[f j]? = some o ∧ VO heap h K (decide (h ≤ j)) o o' ∧ (h ≤ j → K[j - h]? = some (f j)) := fun j o' hj => by
    by_cases c : j < h
    · rw [List.getElem?_append_left (by omega)] at hj
      obtain ⟨o, o1, a1, a2, a3⟩ := g1 j j (by rw [List.getElem?_range c])
      rw [hj] at a2; cases a2
      refine ⟨o, by simp only [f, if_pos c]; exact a1, ?_, fun c' => by omega⟩
      rw [show decide (h ≤ j) = false by simp; omega]; exact a3
    · rw [List.getElem?_append_right (by omega), ← l1] at hj
      have hlt := get_lt hj
      rw [← l2] at hlt
      obtain ⟨o, o1, a1, a2, a3⟩ := g2 (j - h) _ (List.getElem?_eq_getElem hlt)
      rw [hj] at a2; cases a2
      have hf : f j = K[j - h] := by simp only [f, if_neg c, List.getD_eq_getElem?_getD, List.getElem?_eq_getElem hlt, Option.getD_some]
      refine ⟨o, by rw [hf]; exact a1, ?_, fun _ => by rw [hf]; exact List.getElem?_eq_getElem hlt⟩
      rw [show decide (h ≤ j) = true by simp; omega]; exact a3
  have ρl : ∀ {j : Nat}, j < h → ∀ k, ρ' j k = ρ j k := fun {j} c k => if_pos c
  have ρg : ∀ {j i : Nat} {o : Ob}, h ≤ j → K[j - h]? = some i → heap[i]? = some o → ∀ k, ρ' j k = ρ i (o.lim - 1) := fun {j i o} c hi ho k => by
    show (if j < h then ρ j k else match heap[K.getD (j - h) 0]? with | some o => ρ (K.getD (j - h) 0) (o.lim - 1) | none => ρ 0 0) = _
    rw [if_neg (by omega), sel_getD hi, ho]
  have knl : ∀ {i k : Nat}, i < h → Kn heap i k → Kn (L1 ++ L2) i k := fun {i k} c ⟨o, ho, hko⟩ => by
    obtain ⟨o1, o', a1, a2, a3⟩ := g1 i i (by rw [List.getElem?_range c])
    rw [ho] at a1; cases a1
    refine ⟨o', by rw [List.getElem?_append_left (by omega)]; exact a2, ?_⟩
    cases a3 <;> exact hko
  have kng : ∀ {i j : Nat}, h ≤ j → K[j - h]? = some i → Kn (L1 ++ L2) j 0 := fun {i j} c hi => by
    obtain ⟨o1, o', a1, a2, a3⟩ := g2 (j - h) i hi
    refine ⟨o', by rw [List.getElem?_append_right (by omega), ← l1]; exact a2, ?_⟩
    cases a3 <;> simp [Ob.lim]
  have val : ∀ {x y : AV}, VR heap h K x y → ∀ {v : Value}, Val (Kn heap) ρ w Z Y x v → Val (Kn (L1 ++ L2)) ρ' w Z Y y v := by
    have pw : ∀ {l l' : List AV} {us : List Value}, l.length = l'.length → l.length = us.length → (∀ (j : Nat) x y, l[j]? = some x → l'[j]? = some y → ∀ {v : Value}, Val (Kn heap) ρ w Z Y x v → Val (Kn (L1 ++ L2)) ρ' w Z Y y v) → (∀ (j : Nat) x u, l[j]? = some x → us[j]? = some u → Val (Kn heap) ρ w Z Y x u) →
        ∀ (j : Nat) y u, l'[j]? = some y → us[j]? = some u → Val (Kn (L1 ++ L2)) ρ' w Z Y y u := by
      intro l l' us e1 e2 ih hv j y u hj hu
      have hlt := get_lt hj
      rw [← e1] at hlt
      exact ih j _ y (List.getElem?_eq_getElem hlt) hj (hv j _ u (List.getElem?_eq_getElem hlt) hu)
    intro x y hxy
    induction hxy with
    | any x => intro v _; exact .any v
    | t he => intro v hv; subst he; cases hv with | t h => exact .t h
    | nl => intro v hv; cases hv with | nl a => exact .nl a
    | @old i k n n' hi hn =>
      intro v hv
      subst hn
      have c : i < h := Nat.le_of_ble_eq_true hi
      cases hv with
      | sl hk hc h0 => rw [← ρl c] at hc h0 ⊢; exact .sl (knl c hk) hc h0
    | @new i j k n n' E s els hj hq hi hn =>
      intro v hv
      subst hn
      have c : h ≤ j := Nat.le_of_ble_eq_true hj
      cases hv with
      | sl hk hc h0 =>
        have e : ρ' j 0 = ρ i k := ρg c hq hi 0
        rw [← e] at hc h0 ⊢
        exact .sl (kng c hq) hc h0
    | @optr i off hi =>
      intro v hv
      have c : i < h := Nat.le_of_ble_eq_true hi
      cases hv with
      | ptr hk ha => exact .ptr (knl c hk) (by rw [ρl c]; exact ha)
    | @nptr i j off t cs hj hq hi =>
      intro v hv
      have c : h ≤ j := Nat.le_of_ble_eq_true hj
      cases hv with
      | ptr hk ha => exact .ptr (kng c hq) (by rw [ρg c hq hi 0]; exact ha)
    | agg e1 hp ih => intro v hv; cases hv with | agg a1 a2 a3 => exact .agg (by rw [← e1]; exact a1) a2 (pw e1 a1 ih a3)
    | tup e1 hp ih => intro v hv; cases hv with | tup a1 a3 => exact .tup (by rw [← e1]; exact a1) (pw e1 a1 ih a3)
  have blk : ∀ (j : Nat) (o' o : Ob), (L1 ++ L2)[j]? = some o' → heap[f j]? = some o → VO heap h K (decide (h ≤ j)) o o' → (h ≤ j → K[j - h]? = some (f j)) → o'.blk ρ' j = o.blk ρ (f j) := fun j o' o _ ho hv hK' => by
    by_cases c : j < h
    · have ef : f j = j := by simp only [f, if_pos c]
      rw [ef] at ho ⊢
      rw [show decide (h ≤ j) = false by simp; omega] at hv
      cases hv with
      | row => simp only [Ob.blk, ρl c]
      | box => simp only [Ob.blk, ρl c]
      | gone => rfl
    · have hq := hK' (by omega)
      rw [show decide (h ≤ j) = true by simp; omega] at hv
      cases hv with
      | rset => simp only [Ob.blk, ρg (by omega) hq ho]; rfl
      | box => simp only [Ob.blk, ρg (by omega) hq ho]; rfl
  have inj : ∀ i j, i < (L1 ++ L2).length → j < (L1 ++ L2).length → f i = f j → i = j := fun i j hi hj hf => by
    simp only [List.length_append] at hi hj
    have inK : ∀ q, h ≤ q → q < L1.length + L2.length → K[q - h]? = some (f q) := fun q c1 c2 => by
      have hlt : q - h < K.length := by omega
      simp only [f, if_neg (show ¬ q < h by omega), List.getD_eq_getElem?_getD, List.getElem?_eq_getElem hlt, Option.getD_some]
    by_cases ci : i < h <;> by_cases cj : j < h
    · simpa only [f, if_pos ci, if_pos cj] using hf
    · have := hK1 _ (List.mem_of_getElem? (inK j (by omega) hj))
      rw [← hf] at this
      simp only [f, if_pos ci] at this; omega
    · have := hK1 _ (List.mem_of_getElem? (inK i (by omega) hi))
      rw [hf] at this
      simp only [f, if_pos cj] at this; omega
    · have e1 := inK i (by omega) hi
      have e2 := inK j (by omega) hj
      rw [← hf] at e2
      have key : ∀ p q, p < q → K[p]? = some (f i) → K[q]? = some (f i) → False := fun p q hpq h1 h2 => by
        have a1 := get_lt h1
        have a2 := get_lt h2
        rw [List.getElem?_eq_getElem a1] at h1
        rw [List.getElem?_eq_getElem a2] at h2
        exact List.pairwise_iff_getElem.1 hK p q a1 a2 hpq ((Option.some.inj h1).trans (Option.some.inj h2).symm)
      rcases Nat.lt_trichotomy (i - h) (j - h) with c | c | c
      · exact (key _ _ c e1 e2).elim
      · omega
      · exact (key _ _ c e2 e1).elim
  refine ⟨ρ', ⟨⟨fun j o' hj => ?_, fun i j o o' b hi hj hp hq => ?_, fun j o' b hj hp => ?_, hk.rep.zy, hk.rep.ylt⟩, fun j o' b hj hp => ?_, hk.zone, hk.z0, hk.y0, fun i k hik => ?_, hk.os, hk.tape, hk.output, hk.size, hk.keep⟩, fun x y v hxy hv => val hxy hv⟩
  · obtain ⟨o, a1, a2, a3⟩ := get j o' hj
    have ho := hk.rep.obs _ o a1
    by_cases c : j < h
    · have ef : f j = j := by simp only [f, if_pos c]
      rw [ef] at ho
      rw [show decide (h ≤ j) = false by simp; omega] at a2
      cases a2 with
      | row he => subst he; obtain ⟨b1, xs, b2, b3⟩ := ho; exact ⟨by rw [ρl c]; exact b1, xs, b2, by rw [ρl c]; exact b3⟩
      | box hl =>
        obtain ⟨b, us, b1, b2, b3, b4⟩ := ho
        obtain ⟨c1, c2⟩ := hl.get
        refine ⟨b, us, by rw [ρl c]; exact b1, b2, ⟨by rw [← c1]; exact b3.len, fun q y u hq hu => ?_⟩, b4⟩
        have hlt := get_lt hq
        rw [← c1] at hlt
        exact val (c2 q _ y (List.getElem?_eq_getElem hlt) hq) (b3.at_ q _ u (List.getElem?_eq_getElem hlt) hu)
      | gone => trivial
    · have hq := a3 (by omega)
      rw [show decide (h ≤ j) = true by simp; omega] at a2
      cases a2 with
      | rset he =>
        subst he
        obtain ⟨b1, xs, b2, b3⟩ := ho
        have e := ρg (by omega) hq a1 0
        exact ⟨by rw [e]; exact b1, xs, b2, by rw [e]; exact b3⟩
      | box hl =>
        obtain ⟨b, us, b1, b2, b3, b4⟩ := ho
        obtain ⟨c1, c2⟩ := hl.get
        refine ⟨b, us, by rw [ρg (by omega) hq a1]; exact b1, b2, ⟨by rw [← c1]; exact b3.len, fun q y u hq hu => ?_⟩, b4⟩
        have hlt := get_lt hq
        rw [← c1] at hlt
        exact val (c2 q _ y (List.getElem?_eq_getElem hlt) hq) (b3.at_ q _ u (List.getElem?_eq_getElem hlt) hu)
  · obtain ⟨p, a1, a2, a3⟩ := get i o hi
    obtain ⟨q, b1, b2, b3⟩ := get j o' hj
    rw [blk i o p hi a1 a2 a3] at hp
    rw [blk j o' q hj b1 b2 b3] at hq
    exact inj i j (get_lt hi) (get_lt hj) (hk.rep.apart _ _ p q b a1 b1 hp hq)
  · obtain ⟨p, a1, a2, a3⟩ := get j o' hj
    rw [blk j o' p hj a1 a2 a3] at hp
    exact hk.rep.own _ p b a1 hp
  · obtain ⟨p, a1, a2, a3⟩ := get j o' hj
    rw [blk j o' p hj a1 a2 a3] at hp
    exact hk.dom _ p b a1 hp
  · obtain ⟨q1, q2⟩ := hk.rho i k hik
    have hi : i < e.H.length := by obtain ⟨o, ho, _⟩ := hik; exact get_lt ho
    exact ⟨knl (by omega) q1, by rw [ρl (by omega)]; exact q2⟩
theorem Fin.mkv {fn : Func} {r0 : AV} {L0 : List Ob} {rs : List ResultVar} (hrs : fn.results = rs.toArray) {xs : List AV} (hx : ResL P n T heap rs xs) (K : List Nat) (hK : K.Nodup) (hK1 : (K.all fun i => Nat.ble n.h i) = true)
    (h1 : VH heap n.h K false (List.range n.h) (L0.take n.h)) (h2 : VH heap n.h K true K (L0.drop n.h)) (hr : VR heap n.h K (resV xs) r0) : Fin P fn (fun r L => r = r0 ∧ L = L0) n T heap := by
  rintro e a w ⟨ρ, Z, Y, hR⟩
  obtain ⟨vs, q1, q2⟩ := hx.run hR
  obtain ⟨ρ', k1, k2⟩ := Ok.fin (heap := heap) hR.ok (h := n.h) hR.hl hK (fun i hi => Nat.le_of_ble_eq_true (List.all_eq_true.1 hK1 i hi)) h1 h2
  rw [List.take_append_drop] at k1 k2
  have hres : (results fn a.tmps).run P w = .ok (match vs with | [v] => v | l => .tuple l.toArray) w := by
    rw [results_eq, hrs]
    have hm : ((rs.toArray).mapM (resOf a.tmps)).run P w = .ok vs.toArray w := by
      rw [List.mapM_toArray]
      simp only [map_eq_pure_bind, Sem.run_bind, q1, Result.andThen_ok, Sem.run_pure]
    simp only [Sem.run_bind, hm, Result.andThen_ok]
    match vs with
    | [] => rfl
    | [v] => rfl
    | v :: u :: l => simp
  refine ⟨_, _, _, ρ', Z, Y, hres, ⟨rfl, rfl⟩, k1, k2 _ _ _ hr ?_⟩
  match xs, vs, q2 with
  | [], [], _ => exact .tup (us := []) rfl (fun j x u hj => by simp at hj)
  | [x], [v], h2 => exact h2.at_ 0 x v rfl rfl
  | x :: y :: l, v :: u :: m, h2 => exact .tup h2.len h2.at_
  | [], _ :: _, h2 => have := h2.len; simp at this
  | [_], [], h2 => have := h2.len; simp at this
  | [_], _ :: _ :: _, h2 => have := h2.len; simp at this
  | _ :: _ :: _, [], h2 => have := h2.len; simp at this
  | _ :: _ :: _, [_], h2 => have := h2.len; simp at this
end
end Go.Proofs.Ytkichjejadkdgaa
