/- Calls that are handed objects of their caller (sel: which): they come back turned. No program in sight. -/
import Derived.Test.YtkichjejadkdgaaTKeep
namespace Go.Proofs.Ytkichjejadkdgaa
set_option linter.unusedVariables false
set_option linter.unusedSimpArgs false
set_option linter.unnecessarySimpa false
open Go.RowKit
def setSel : List Ob → List Nat → List Ob → List Ob
  | heap, [], _ => heap
  | heap, _ :: _, [] => heap
  | heap, i :: sel, o :: os => setSel (heap.set i o) sel os
def gIO (sel : List Nat) (N : Nat) : Nat → Option Nat := fun i => match sel[i]? with
  | some j => some j
  | none => some (N + (i - sel.length))
theorem setSel_len : ∀ (sel : List Nat) (os : List Ob) (heap : List Ob), (setSel heap sel os).length = heap.length
  | [], _, _ => by rw [setSel]
  | _ :: _, [], _ => by rw [setSel]
  | i :: sel, o :: os, heap => by rw [setSel, setSel_len sel os]; simp
theorem setSel_out : ∀ (sel : List Nat) (os : List Ob) (heap : List Ob) (j : Nat), j ∉ sel → (setSel heap sel os)[j]? = heap[j]?
  | [], _, _, _, _ => by rw [setSel]
  | _ :: _, [], _, _, _ => by rw [setSel]
  | i :: sel, o :: os, heap, j, h => by
    simp only [List.mem_cons, not_or] at h
    rw [setSel, setSel_out sel os _ j h.2, List.getElem?_set, if_neg (Ne.symm h.1)]
theorem setSel_in : ∀ (sel : List Nat) (os : List Ob) (heap : List Ob) (p i : Nat) (o : Ob), sel.Nodup → sel[p]? = some i → os[p]? = some o → i < heap.length → (setSel heap sel os)[i]? = some o
  | [], _, _, p, i, o, _, h, _, _ => by simp at h
  | _ :: _, [], _, p, i, o, _, _, h, _ => by simp at h
  | i0 :: sel, o0 :: os, heap, 0, i, o, hn, h1, h2, hl => by
    simp at h1 h2; subst h1 h2
    rw [setSel, setSel_out sel os _ i0 (List.nodup_cons.1 hn).1, List.getElem?_set, if_pos rfl, if_pos hl]
  | i0 :: sel, o0 :: os, heap, p + 1, i, o, hn, h1, h2, hl => by
    rw [setSel]
    exact setSel_in sel os _ p i o (List.nodup_cons.1 hn).2 (by simpa using h1) (by simpa using h2) (by simpa using hl)
/-- An object, as the one who is called sees it. -/
inductive PassO (heap : List Ob) (sel : List Nat) : Ob → Ob → Prop
  | row {k : Nat} {E : TypeId} {s : Nat} {els : List (List Tr)} : PassO heap sel (.row k E s els) (.row k E s els)
  | box {t : TypeId} {cs cs' : List AV} (h : PassL heap sel cs cs') : PassO heap sel (.box t cs) (.box t cs')
inductive PassH (heap : List Ob) (sel : List Nat) : List Nat → List Ob → Prop
  | nil : PassH heap sel [] []
  | cons {i : Nat} {o o' : Ob} {l : List Nat} {H : List Ob} (hi : heap[i]? = some o) (h : PassO heap sel o o') (k : PassH heap sel l H) : PassH heap sel (i :: l) (o' :: H)
theorem PassH.get {heap : List Ob} {sel l : List Nat} {H : List Ob} (h : PassH heap sel l H) : l.length = H.length ∧ ∀ (p i : Nat), l[p]? = some i → ∃ o o', heap[i]? = some o ∧ H[p]? = some o' ∧ PassO heap sel o o' := by
  induction h with
  | nil => exact ⟨rfl, fun p i h => by simp at h⟩
  | @cons i o o' l H hi h k ih =>
    refine ⟨by simp [ih.1], fun p j hp => ?_⟩
    cases p with
    | zero => simp at hp; subst hp; exact ⟨o, o', hi, rfl, h⟩
    | succ p => exact ih.2 p j (by simpa using hp)
theorem PassO.lim {heap : List Ob} {sel : List Nat} {o o' : Ob} (h : PassO heap sel o o') : o'.lim = o.lim := by cases h <;> rfl
theorem PassO.blk {heap : List Ob} {sel : List Nat} {o o' : Ob} (h : PassO heap sel o o') {ρ ρ' : Rho} {i j : Nat} (hρ : ∀ k, ρ' j k = ρ i k) : o'.blk ρ' j = o.blk ρ i := by
  cases h with
  | row => simp only [Ob.blk, hρ]
  | box => simp only [Ob.blk, hρ]
section
variable {P : Program} {ops : Array Oper} {Q : QS} {rest : List Oper} {o : Oper} {n : Fr} {T : Nat → AV} {heap : List Ob} {d : Nat}
/-- whose blocks are handed over -/
def Dio (heap : List Ob) (sel : List Nat) (w : World) (ρ : Rho) (b : Nat) : Prop := (∃ i o, i ∈ sel ∧ heap[i]? = some o ∧ o.blk ρ i = some b) ∨ w.heap.size ≤ b
def ioEnv (heap : List Ob) (sel : List Nat) (H : List Ob) (w : World) (ρ : Rho) (Z : Nat → Prop) : Env :=
  { W := w, D := Dio heap sel w ρ, H := H, ρ := fun p k => ρ (sel.getD p 0) k, Z := Z, Y := fun b => b < w.heap.size ∧ ¬ Dio heap sel w ρ b, big := fun _ h => .inr h, yd := fun b h1 h2 => h1.2 h2 }
theorem sel_getD {sel : List Nat} {p i : Nat} (h : sel[p]? = some i) : sel.getD p 0 = i := by rw [List.getD_eq_getElem?_getD, h]; rfl
theorem io_val {w : World} {ρ : Rho} {Z Y : Nat → Prop} (h : HRep heap w ρ Z Y) {sel : List Nat} {H : List Ob} (hH : PassH heap sel sel H) {x y : AV} (hp : Pass heap sel x y) {v : Value} (hv : Val (Kn heap) ρ w Z Y x v) :
    Val (Kn H) (ioEnv heap sel H w ρ Z).ρ w Z (ioEnv heap sel H w ρ Z).Y y v := by
  have q1 : ∀ b, Y b → (ioEnv heap sel H w ρ Z).Y b := fun b hb => ⟨h.ylt b hb, by
    rintro (⟨i, o, hi, ho, hb'⟩ | hge)
    · exact (h.own i o b ho hb').2 hb
    · have := h.ylt b hb; omega⟩
  have q2 : ∀ (i : Nat) (o : Ob) (b : Nat), heap[i]? = some o → sel.contains i = false → o.blk ρ i = some b → (ioEnv heap sel H w ρ Z).Y b := fun i o b hi hn hb => ⟨(h.own i o b hi hb).1, by
    rintro (⟨j, o', hj, ho', hb'⟩ | hge)
    · have := h.apart i j o o' b hi ho' hb hb'
      subst this
      simp at hn
      exact hn hj
    · have := (h.own i o b hi hb).1; omega⟩
  refine val_pass h q1 (fun p i k hpi hk => ?_) q2 hp hv
  obtain ⟨o, o', h1, h2, h3⟩ := hH.get.2 p i hpi
  obtain ⟨o1, h4, h5⟩ := hk
  rw [h1] at h4; cases h4
  exact ⟨⟨o', h2, by rw [h3.lim]; exact h5⟩, by show ρ (sel.getD p 0) k = _; rw [sel_getD hpi]⟩
theorem io_rep {w : World} {ρ : Rho} {Z Y : Nat → Prop} (h : HRep heap w ρ Z Y) {sel : List Nat} (hnd : sel.Nodup) {H : List Ob} (hH : PassH heap sel sel H) : HRep H w (ioEnv heap sel H w ρ Z).ρ Z (ioEnv heap sel H w ρ Z).Y ∧
    ∀ (p : Nat) (o : Ob) (b : Nat), H[p]? = some o → o.blk (ioEnv heap sel H w ρ Z).ρ p = some b → (ioEnv heap sel H w ρ Z).D b := by
  obtain ⟨hl, hg⟩ := hH.get
  have get : ∀ (p : Nat) (o' : Ob), H[p]? = some o' → ∃ i o, sel[p]? = some i ∧ heap[i]? = some o ∧ PassO heap sel o o' := fun p o' hp => by
    have hlt := get_lt hp
    obtain ⟨o, o1, h1, h2, h3⟩ := hg p _ (List.getElem?_eq_getElem (by omega))
    rw [hp] at h2; cases h2
    exact ⟨_, o, List.getElem?_eq_getElem (by omega), h1, h3⟩
  have ρe : ∀ {p i : Nat}, sel[p]? = some i → ∀ k, (ioEnv heap sel H w ρ Z).ρ p k = ρ i k := fun {p i} hp k => by show ρ (sel.getD p 0) k = _; rw [sel_getD hp]
  refine ⟨⟨fun p o' hp => ?_, fun p q o1 o2 b hp hq hb hb' => ?_, fun p o' b hp hb => ?_, fun b hb => ⟨h.ylt b (h.zy b hb), ?_⟩, fun b hb => hb.1⟩, fun p o' b hp hb => ?_⟩
  · obtain ⟨i, o, h1, h2, h3⟩ := get p o' hp
    have ho := h.obs i o h2
    cases h3 with
    | row =>
      obtain ⟨a1, xs, a2, a3⟩ := ho
      refine ⟨by rw [ρe h1]; exact a1, xs, a2, ?_⟩
      rw [ρe h1]; exact a3
    | @box t cs cs' hL =>
      obtain ⟨b, us, a1, a2, a3, a4⟩ := ho
      obtain ⟨l1, l2⟩ := hL.get
      refine ⟨b, us, by rw [ρe h1]; exact a1, a2, ⟨by rw [← l1]; exact a3.len, fun j y u hj hu => ?_⟩, a4⟩
      have hlt := get_lt hj
      rw [← l1] at hlt
      exact io_val h hH (l2 j _ y (List.getElem?_eq_getElem hlt) hj) (a3.at_ j _ u (List.getElem?_eq_getElem hlt) hu)
  · obtain ⟨i, oi, a1, a2, a3⟩ := get p o1 hp
    obtain ⟨j, oj, b1, b2, b3⟩ := get q o2 hq
    rw [a3.blk (ρe a1)] at hb
    rw [b3.blk (ρe b1)] at hb'
    have hij := h.apart i j oi oj b a2 b2 hb hb'
    subst hij
    have c1 := get_lt a1
    have c2 := get_lt b1
    rw [List.getElem?_eq_getElem c1] at a1
    rw [List.getElem?_eq_getElem c2] at b1
    rcases Nat.lt_trichotomy p q with c | c | c
    · exact absurd ((Option.some.inj a1).trans (Option.some.inj b1).symm) (List.pairwise_iff_getElem.1 hnd p q c1 c2 c)
    · exact c
    · exact absurd ((Option.some.inj b1).trans (Option.some.inj a1).symm) (List.pairwise_iff_getElem.1 hnd q p c2 c1 c)
  · obtain ⟨i, oi, a1, a2, a3⟩ := get p o' hp
    rw [a3.blk (ρe a1)] at hb
    exact ⟨(h.own i oi b a2 hb).1, fun hy => hy.2 (.inl ⟨i, oi, List.mem_of_getElem? a1, a2, hb⟩)⟩
  · rintro (⟨i, o, hi, ho, hb'⟩ | hge)
    · exact (h.own i o b ho hb').2 (h.zy b hb)
    · have := h.ylt b (h.zy b hb); omega
  · obtain ⟨i, oi, a1, a2, a3⟩ := get p o' hp
    rw [a3.blk (ρe a1)] at hb
    exact .inl ⟨i, oi, List.mem_of_getElem? a1, a2, hb⟩
/-- What comes back. -/
theorem Ok.backio {e : Env} {w w' : World} {ρ ρ1 : Rho} {Z Y Z1 Y1 : Nat → Prop} (h : Ok e heap w ρ Z Y) {sel : List Nat} (hnd : sel.Nodup) {H : List Ob} (hH : PassH heap sel sel H) {hp : List Ob} (k : Ok (ioEnv heap sel H w ρ Z) hp w' ρ1 Z1 Y1) {heap' : List Ob}
    (hh : setSel heap sel (hp.map (upO (gIO sel heap.length))) ++ (hp.drop sel.length).map (upO (gIO sel heap.length)) = heap') :
    ∃ ρ', Ok e heap' w' ρ' Z1 (fun b => Y b ∨ Z1 b) ∧ (∀ x v, Val (Kn heap) ρ w Z Y x v → Val (Kn heap') ρ' w' Z1 (fun b => Y b ∨ Z1 b) x v) ∧ ∀ x v, Val (Kn hp) ρ1 w' Z1 Y1 x v → Val (Kn heap') ρ' w' Z1 (fun b => Y b ∨ Z1 b) (upA (gIO sel heap.length) x) v := by
  obtain ⟨hl, hg⟩ := hH.get
  have hsellt : ∀ {p i : Nat}, sel[p]? = some i → i < heap.length := fun {p i} hp' => by obtain ⟨o, _, h1, _⟩ := hg p i hp'; exact get_lt h1
  -- the objects that were handed over are still there
  have hph : sel.length ≤ hp.length := by
    rcases Nat.lt_or_ge hp.length sel.length with c | c
    · obtain ⟨o, o', h1, h2, h3⟩ := hg hp.length _ (List.getElem?_eq_getElem c)
      have hlim : 0 < o'.lim := by cases h3 <;> simp [Ob.lim]
      obtain ⟨⟨p, hp', _⟩, _⟩ := k.rho hp.length 0 ⟨o', h2, hlim⟩
      have := get_lt hp'
      omega
    · exact c
  have hsz : w.heap.size ≤ w'.heap.size := k.size
  have keep : ∀ b, ¬ Dio heap sel w ρ b → w'.heap[b]? = w.heap[b]? := fun b hb => k.keep b hb
  have hy : ∀ b, Y b → ¬ Dio heap sel w ρ b := fun b hb => by
    rintro (⟨i, o, hi, ho, hb'⟩ | hge)
    · exact (h.rep.own i o b ho hb').2 hb
    · have := h.rep.ylt b hb; omega
  have hrest : ∀ {j : Nat} {o : Ob} {b : Nat}, heap[j]? = some o → j ∉ sel → o.blk ρ j = some b → ¬ Dio heap sel w ρ b := fun {j o b} hj hn hb => by
    rintro (⟨i, o', hi, ho, hb'⟩ | hge)
    · have := h.rep.apart j i o o' b hj ho hb hb'
      subst this; exact hn hi
    · have := (h.rep.own j o b hj hb).1; omega
  let g := gIO sel heap.length
  let ρ' : Rho := fun j q => match findG sel 0 j with
    | some p => ρ1 p q
    | none => if heap.length ≤ j then ρ1 (sel.length + (j - heap.length)) q else ρ j q
  have fnd : ∀ {p i : Nat}, sel[p]? = some i → findG sel 0 i = some p := fun {p i} hpi => by
    have key : ∀ (l : List Nat) (m p : Nat), l.Nodup → l[p]? = some i → findG l m i = some (m + p) := by
      intro l
      induction l with
      | nil => intro m p _ h; simp at h
      | cons x l ih =>
        intro m p hn hx
        unfold findG
        cases p with
        | zero => simp at hx; subst hx; rw [Nat.beq_refl]; rfl
        | succ p =>
          have hx' : l[p]? = some i := by simpa using hx
          have hne : x ≠ i := fun e => (List.nodup_cons.1 hn).1 (by rw [e]; exact List.mem_of_getElem? hx')
          rw [beq_ne hne, cond_false, ih (m + 1) p (List.nodup_cons.1 hn).2 hx']
          congr 1; omega
    have := key sel 0 p hnd hpi
    simpa using this
  have fnone : ∀ {j : Nat}, j ∉ sel → findG sel 0 j = none := fun {j} hj => by
    cases hf : findG sel 0 j with
    | none => rfl
    | some p => exact absurd (List.mem_of_getElem? (by have := (findG_some hf).2; simpa using this)) hj
  have ρs : ∀ {p i : Nat}, sel[p]? = some i → ∀ q, ρ' i q = ρ1 p q := fun {p i} hpi q => by show (match findG sel 0 i with | some p => ρ1 p q | none => _) = _; rw [fnd hpi]
  have ρn : ∀ i q, ρ' (heap.length + i) q = ρ1 (sel.length + i) q := fun i q => by
    show (match findG sel 0 (heap.length + i) with | some p => ρ1 p q | none => if heap.length ≤ heap.length + i then ρ1 (sel.length + (heap.length + i - heap.length)) q else _) = _
    rw [fnone fun hm => by obtain ⟨p, hp'⟩ := List.getElem?_of_mem hm; have := hsellt hp'; omega, if_pos (by omega), Nat.add_sub_cancel_left]
  have ρo : ∀ j q, Kn heap j q → ρ' j q = ρ j q := fun j q hk => by
    by_cases hj : j ∈ sel
    · obtain ⟨p, hp'⟩ := List.getElem?_of_mem hj
      obtain ⟨o, o', h1, h2, h3⟩ := hg p j hp'
      obtain ⟨o1, h4, h5⟩ := hk
      rw [h1] at h4; cases h4
      rw [ρs hp']
      have := (k.rho p q ⟨o', h2, by rw [h3.lim]; exact h5⟩).2
      rw [this]
      show ρ (sel.getD p 0) q = _
      rw [sel_getD hp']
    · show (match findG sel 0 j with | some p => ρ1 p q | none => if heap.length ≤ j then _ else ρ j q) = _
      obtain ⟨o, h1, _⟩ := hk
      have := get_lt h1
      rw [fnone hj, if_neg (by omega)]
  have hlen : (setSel heap sel (hp.map (upO g))).length = heap.length := setSel_len _ _ _
  have part : ∀ (j : Nat) (o : Ob), heap'[j]? = some o → (∃ p o1, sel[p]? = some j ∧ hp[p]? = some o1 ∧ o = upO g o1) ∨ (∃ q o1, j = heap.length + q ∧ hp[sel.length + q]? = some o1 ∧ o = upO g o1) ∨ (j ∉ sel ∧ heap[j]? = some o) := fun j o hj => by
    rw [← hh] at hj
    by_cases c : j < heap.length
    · rw [List.getElem?_append_left (by rw [hlen]; exact c)] at hj
      by_cases hs : j ∈ sel
      · obtain ⟨p, hp'⟩ := List.getElem?_of_mem hs
        have hpl := get_lt hp'
        have h1 : hp[p]? = some (hp[p]'(by omega)) := List.getElem?_eq_getElem (by omega)
        rw [setSel_in sel _ heap p j (upO g (hp[p]'(by omega))) hnd hp' (by rw [List.getElem?_map, h1]; rfl) c] at hj
        cases hj
        exact .inl ⟨p, _, hp', h1, rfl⟩
      · rw [setSel_out sel _ heap j hs] at hj
        exact .inr (.inr ⟨hs, hj⟩)
    · rw [List.getElem?_append_right (by rw [hlen]; omega), hlen, List.getElem?_map, List.getElem?_drop] at hj
      cases hx : hp[sel.length + (j - heap.length)]? with
      | none => rw [hx] at hj; cases hj
      | some o1 => rw [hx] at hj; cases hj; exact .inr (.inl ⟨j - heap.length, o1, by omega, hx, rfl⟩)
  have getS : ∀ {p i : Nat} {o1 : Ob}, sel[p]? = some i → hp[p]? = some o1 → heap'[i]? = some (upO g o1) := fun {p i o1} h1 h2 => by
    rw [← hh, List.getElem?_append_left (by rw [hlen]; exact hsellt h1)]
    exact setSel_in sel _ heap p i _ hnd h1 (by rw [List.getElem?_map, h2]; rfl) (hsellt h1)
  have getN : ∀ {q : Nat} {o1 : Ob}, hp[sel.length + q]? = some o1 → heap'[heap.length + q]? = some (upO g o1) := fun {q o1} h1 => by
    rw [← hh, List.getElem?_append_right (by rw [hlen]; omega), hlen, Nat.add_sub_cancel_left, List.getElem?_map, List.getElem?_drop, h1]; rfl
  have up : ∀ i q j, g i = some j → Kn hp i q → Kn heap' j q ∧ ρ' j q = ρ1 i q := by
    rintro i q j hj ⟨o1, h1, h2⟩
    simp only [g, gIO] at hj
    cases hs : sel[i]? with
    | some i' =>
      rw [hs] at hj; cases hj
      exact ⟨⟨_, getS hs h1, by rw [upO_lim]; exact h2⟩, ρs hs q⟩
    | none =>
      rw [hs] at hj; cases hj
      have hge : sel.length ≤ i := by
        rcases Nat.lt_or_ge i sel.length with c | c
        · rw [List.getElem?_eq_getElem c] at hs; cases hs
        · exact c
      have e1 : sel.length + (i - sel.length) = i := by omega
      exact ⟨⟨_, getN (by rw [e1]; exact h1), by rw [upO_lim]; exact h2⟩, by rw [ρn, e1]⟩
  have kn : ∀ j q, Kn heap j q → Kn heap' j q := fun j q hk => by
    by_cases hj : j ∈ sel
    · obtain ⟨p, hp'⟩ := List.getElem?_of_mem hj
      obtain ⟨o, o', h1, h2, h3⟩ := hg p j hp'
      obtain ⟨o1, h4, h5⟩ := hk
      rw [h1] at h4; cases h4
      obtain ⟨⟨o2, h6, h7⟩, _⟩ := k.rho p q ⟨o', h2, by rw [h3.lim]; exact h5⟩
      exact ⟨_, getS hp' h6, by rw [upO_lim]; exact h7⟩
    · obtain ⟨o1, h4, h5⟩ := hk
      refine ⟨o1, ?_, h5⟩
      rw [← hh, List.getElem?_append_left (by rw [hlen]; exact get_lt h4), setSel_out sel _ heap j hj]
      exact h4
  have hy' : ∀ b, Y b → (Y b ∨ Z1 b) ∧ w'.heap[b]? = w.heap[b]? := fun b hb => ⟨.inl hb, keep b (hy b hb)⟩
  have hz' : ∀ b, Z b → Z1 b ∧ w'.heap[b]? = w.heap[b]? := fun b hb => ⟨k.z0 b hb, keep b (hy b (h.rep.zy b hb))⟩
  have hkn : ∀ j q, Kn heap j q → Kn heap' j q ∧ ρ' j q = ρ j q := fun j q hk => ⟨kn j q hk, ρo j q hk⟩
  have z1 : ∀ b, Z1 b → Z b ∨ Dio heap sel w ρ b := fun b hb => k.zone b hb
  have blkS : ∀ {p i : Nat} {o1 : Ob}, sel[p]? = some i → (upO g o1).blk ρ' i = o1.blk ρ1 p := fun {p i o1} hpi => upO_blk fun m _ => ρs hpi m
  have blkN : ∀ {q : Nat} {o1 : Ob}, (upO g o1).blk ρ' (heap.length + q) = o1.blk ρ1 (sel.length + q) := fun {q o1} => upO_blk fun m _ => ρn q m
  have blkR : ∀ {j : Nat} {o1 : Ob}, heap[j]? = some o1 → o1.blk ρ' j = o1.blk ρ j := fun {j o1} hj => Ob.blk_mono fun m hm => ρo j m ⟨o1, hj, hm⟩
  -- each object of the new list: one that came back (at its number there), or one of the rest
  have view : ∀ (j : Nat) (o : Ob) (b : Nat), heap'[j]? = some o → o.blk ρ' j = some b → (∃ i o1, hp[i]? = some o1 ∧ o1.blk ρ1 i = some b ∧ g i = some j) ∨ (j ∉ sel ∧ heap[j]? = some o ∧ o.blk ρ j = some b) := fun j o b hj hb => by
    rcases part j o hj with ⟨p, o1, h1, h2, rfl⟩ | ⟨q, o1, rfl, h2, rfl⟩ | ⟨h1, h2⟩
    · rw [blkS h1] at hb
      exact .inl ⟨p, o1, h2, hb, by show gIO sel heap.length p = _; simp only [gIO, h1]⟩
    · rw [blkN] at hb
      refine .inl ⟨sel.length + q, o1, h2, hb, ?_⟩
      show gIO sel heap.length _ = _
      simp only [gIO]
      rw [List.getElem?_eq_none (by omega)]
      simp
    · rw [blkR h2] at hb
      exact .inr ⟨h1, h2, hb⟩
  have hDD : ∀ b, Dio heap sel w ρ b → e.D b := by
    rintro b (⟨i, o, hi, ho, hb⟩ | hge)
    · exact h.dom i o b ho hb
    · exact e.big b (Nat.le_trans h.size hge)
  have hrep : HRep heap' w' ρ' Z1 (fun b => Y b ∨ Z1 b) := by
    refine ⟨fun j o hj => ?_, fun i j o o' b hi hj hb hb' => ?_, fun j o b hj hb => ?_, fun b hb => .inr hb, fun b hb => ?_⟩
    · rcases part j o hj with ⟨p, o1, h1, h2, rfl⟩ | ⟨q, o1, rfl, h2, rfl⟩ | ⟨h1, h2⟩
      · exact upO_holds up (fun m _ => ρs h1 m) (k.rep.obs p o1 h2)
      · exact upO_holds up (fun m _ => ρn q m) (k.rep.obs _ o1 h2)
      · exact Ob.holds_mono (fun x v hx => hx.mono hkn hz' hy') (fun m hm => ρo j m ⟨o, h2, hm⟩) hz' (fun b hb => keep b (hrest h2 h1 hb)) (h.rep.obs j o h2)
    · rcases view i o b hi hb with ⟨p, o1, h1, h2, h3⟩ | ⟨h1, h2, h3⟩ <;> rcases view j o' b hj hb' with ⟨q, o2, g1, g2, g3⟩ | ⟨g1, g2, g3⟩
      · have := k.rep.apart p q o1 o2 b h1 g1 h2 g2
        subst this
        rw [h3] at g3; exact Option.some.inj g3
      · exact absurd (k.dom p o1 b h1 h2) (hrest g2 g1 g3)
      · exact absurd (k.dom q o2 b g1 g2) (hrest h2 h1 h3)
      · exact h.rep.apart i j o o' b h2 g2 h3 g3
    · rcases view j o b hj hb with ⟨p, o1, h1, h2, h3⟩ | ⟨h1, h2, h3⟩
      · have a1 := k.rep.own p o1 b h1 h2
        have a2 := k.dom p o1 b h1 h2
        refine ⟨a1.1, fun hb' => ?_⟩
        rcases hb' with hb' | hb'
        · exact hy b hb' a2
        · exact a1.2 (k.rep.zy b hb')
      · have a1 := h.rep.own j o b h2 h3
        refine ⟨Nat.lt_of_lt_of_le a1.1 hsz, fun hb' => ?_⟩
        rcases hb' with hb' | hb'
        · exact a1.2 hb'
        · rcases z1 b hb' with c | c
          · exact a1.2 (h.rep.zy b c)
          · exact hrest h2 h1 h3 c
    · rcases hb with hb | hb
      · exact Nat.lt_of_lt_of_le (h.rep.ylt b hb) hsz
      · exact k.rep.ylt b (k.rep.zy b hb)
  refine ⟨ρ', h.mono hrep hkn ⟨k.os, k.tape, k.output⟩ hsz (fun j o b hj hb => ?_) (fun b hb => k.z0 b hb) (fun b hb => .inl hb) (fun b hb => (z1 b hb).elim .inl fun hd => .inr (hDD b hd)) (fun b _ hd => keep b fun hd' => hd (hDD b hd')), fun x v hv => h.rep.val hkn (fun b hb => k.z0 b hb) hy' hv, fun x v hv => val_up up hv⟩
  rcases view j o b hj hb with ⟨p, o1, h1, h2, h3⟩ | ⟨h1, h2, h3⟩
  · exact hDD b (k.dom p o1 b h1 h2)
  · exact h.dom j o b h2 h3
/-- A contract by an equation, of a call that is handed objects. -/
def Cio (P : Program) (f : FuncId) (args : List AV) (H : List Ob) (r : AV) (L : List Ob) : Prop := C P f args H (fun r' L' => r' = r ∧ L' = L)
theorem Cio.enter' {f : FuncId} {fn : Func} {c : Code} (hf : P.funcs[f]? = some fn) (hb : fn.body = some c) {args : List AV} {H : List Ob} {r : AV} {L : List Ob} {N : Nat} (hn : fn.ntmps = N) (hle : Nat.ble args.length N = true) {M : Nat} (hM : H.length = M) (h : AW P c (retQ P fn (fun r' L' => r' = r ∧ L' = L) ⟨N, M⟩) ⟨N, M⟩ (argT args) H) : Cio P f args H r L :=
  C.enter' hf hb hn hle hM h
theorem A_callio (hw : wantedA n T ops o = true) (hd : o.dst = some d) {f : FuncId} {fn : Func} (hf : P.funcs[f]? = some fn) (hn : (fn.name == "runtime.NumGoroutine") = false) (hb : fn.body.isNone = false) {args : Array Operand} {tys : Array TypeId}
    (ho : o.op = .call { callee := .value (.func f), args := args, argTypes := tys }) (sel : List Nat) (hnd : sel.Nodup) {xs : List AV} {H : List Ob} {r : AV} {L : List Ob} (hc : Cio P f xs H r L) (hH : PassH heap sel sel H) (hp : PassL heap sel (args.toList.map (evA n T)) xs)
    {N : Nat} (hN : heap.length = N) {r' : AV} (hr : upA (gIO sel N) r = r') {heap' : List Ob} (hh : setSel heap sel (L.map (upO (gIO sel N))) ++ (L.drop sel.length).map (upO (gIO sel N)) = heap') (k : AL P ops Q rest n (pu T d r') heap') : AL P ops Q (o :: rest) n T heap := by
  subst hN hr
  rintro e a w ⟨ρ, Z, Y, hR⟩
  have hrep := hR.ok.rep
  obtain ⟨hl, hg⟩ := hp.get
  obtain ⟨i1, i2⟩ := io_rep hrep hnd hH
  refine wpList_do (hR.wanted hw) fun K hK => ?_
  unfold Oper.wp
  rw [run_fun hf hn hb ho (args.toList.map a.eval) rfl w]
  refine Calls.mono (hc (ioEnv heap sel H w ρ Z) (args.toList.map a.eval) rfl i1 i2 ⟨by simp at hl ⊢; omega, fun j x u hj hu => ?_⟩) ?_
  · rw [List.getElem?_map] at hu
    cases hx : args.toList[j]? with
    | none => rw [hx] at hu; cases hu
    | some y =>
      rw [hx] at hu; cases hu
      exact io_val hrep hH (hg j (evA n T y) x (by rw [List.getElem?_map, hx]; rfl) hj) (hR.eval y)
  · rintro en w' ⟨v, r1, L1, ρ1, Z1, Y1, rfl, ⟨rfl, rfl⟩, hok, hv⟩
    obtain ⟨ρ', k1, k2, k3⟩ := Ok.backio (heap := heap) hR.ok hnd hH hok hh
    refine hK _ _ (k e _ _ ⟨ρ', Z1, fun b => Y b ∨ Z1 b, ?_⟩)
    rw [hd]
    exact (hR.move k1 k2).put d (k3 _ v hv)
end
end Go.Proofs.Ytkichjejadkdgaa
