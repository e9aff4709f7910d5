/- Control, the start and the end of a function, loops, over trees. No program in sight. -/
import Derived.Test.YtkichjejadkdgaaTCall
namespace Go.Proofs.Ytkichjejadkdgaa
set_option linter.unusedVariables false
set_option linter.unusedSimpArgs false
set_option linter.unnecessarySimpa false
open Go.RowKit
def AW (P : Program) (c : Code) (Q : QS) (n : Fr) (T : Nat → AV) (heap : List Ob) : Prop := ∀ e a w, Rep e ⟨n, T, heap⟩ a w → c.wp P (lift e n Q) a w
def thenQ (K : (Nat → AV) → List Ob → Prop) (Q : QS) : QS := fun e T h => match e with
  | .normal => K T h
  | e => Q e T h
def blockQ (id : Nat) (Q : QS) : QS := fun e T h => match e with
  | .exit i => bif Nat.beq i id then Q .normal T h else Q (.exit i) T h
  | e => Q e T h
section
variable {P : Program} {Q : QS} {n : Fr} {T : Nat → AV} {heap : List Ob}
theorem AW.mono {c : Code} {Q' : QS} (h : AW P c Q n T heap) (hq : ∀ e T h, Q e T h → Q' e T h) : AW P c Q' n T heap := fun e a w hR => wp_mono (h e a w hR) fun ex a w ⟨T', h', q, r⟩ => ⟨T', h', hq _ _ _ q, r⟩
theorem AW.region {id : Nat} {l : List Oper} (h : AL P l.toArray Q l n T heap) : AW P (.region id l.toArray false) Q n T heap := fun e a w hR => wp_region_lit (h e a w hR)
theorem AW.seq {x y : Code} (h : AW P x (thenQ (fun T h => AW P y Q n T h) Q) n T heap) : AW P (.seq x y) Q n T heap := fun e a w hR =>
  wp_seq (wp_mono (h e a w hR) fun ex a w ⟨T', h', q, r⟩ => by
    cases ex with
    | normal => exact q e a w r
    | _ => exact ⟨T', h', q, r⟩)
theorem AW.cond {c : Operand} {x y : Code} {b : Bool} (hc : evA n T c = .t (.v (.bool b))) (ht : b = true → AW P x Q n T heap) (hf : b = false → AW P y Q n T heap) : AW P (.cond c x y) Q n T heap := by
  rintro e a w ⟨ρ, Z, Y, hR⟩
  have hv := hR.eval c
  rw [hc] at hv
  generalize hav : a.eval c = v at hv
  cases hv with
  | t h => cases h with
    | v _ =>
    cases b with
    | true => exact wp_cond_true hav (ht rfl e a w ⟨ρ, Z, Y, hR⟩)
    | false => exact wp_cond_false hav (hf rfl e a w ⟨ρ, Z, Y, hR⟩)
theorem AW.block {id : Nat} {c : Code} (h : AW P c (blockQ id Q) n T heap) : AW P (.block id c) Q n T heap := fun e a w hR =>
  wp_block (wp_mono (h e a w hR) fun ex a w ⟨T', h', q, r⟩ => by
    cases ex with
    | exit i =>
      simp only [Exit.inBlock]
      simp only [blockQ] at q
      by_cases hi : i = id
      · subst hi
        rw [Nat.beq_refl] at q
        rw [if_pos rfl]
        exact ⟨T', h', q, r⟩
      · have hb : Nat.beq i id = false := by
          cases hb : Nat.beq i id
          · rfl
          · exact absurd (Nat.eq_of_beq_eq_true hb) hi
        rw [hb] at q
        rw [if_neg hi]
        exact ⟨T', h', q, r⟩
    | _ => exact ⟨T', h', q, r⟩)
theorem AW.skip (h : Q .normal T heap) : AW P .skip Q n T heap := fun _ _ _ hR => wp_skip ⟨T, heap, h, hR⟩
theorem AW.ret (h : Q .ret T heap) : AW P .ret Q n T heap := fun _ _ _ hR => wp_ret ⟨T, heap, h, hR⟩
theorem AW.exit {id : Nat} (h : Q (.exit id) T heap) : AW P (.exit id) Q n T heap := fun _ _ _ hR => wp_exit ⟨T, heap, h, hR⟩

/-! what is forgotten, and other numbers -/
def Wk (n : Fr) (T : Nat → AV) (heap : List Ob) (T' : Nat → AV) (heap' : List Ob) : Prop := ∀ e a w, Rep e ⟨n, T, heap⟩ a w → Rep e ⟨n, T', heap'⟩ a w
theorem Wk.refl : Wk n T heap T heap := fun _ _ _ h => h
theorem Wk.trans {T' T'' : Nat → AV} {heap' heap'' : List Ob} (h : Wk n T heap T' heap') (k : Wk n T' heap' T'' heap'') : Wk n T heap T'' heap'' := fun e a w hR => k e a w (h e a w hR)
theorem AW.wk {c : Code} {T' : Nat → AV} {heap' : List Ob} (h : Wk n T heap T' heap') (k : AW P c Q n T' heap') : AW P c Q n T heap := fun e a w hR => k e a w (h e a w hR)
theorem AL.wk {ops : Array Oper} {rest : List Oper} {T' : Nat → AV} {heap' : List Ob} (h : Wk n T heap T' heap') (k : AL P ops Q rest n T' heap') : AL P ops Q rest n T heap := fun e a w hR => k e a w (h e a w hR)
theorem Ok.sel {e : Env} {w : World} {ρ : Rho} {Z Y : Nat → Prop} (h : Ok e heap w ρ Z Y) {heap' : List Ob} (f : Nat → Nat) (g : Nat → Option Nat) (hinj : ∀ i j, i < heap'.length → j < heap'.length → f i = f j → i = j)
    (hget : ∀ (j : Nat) (o' : Ob), heap'[j]? = some o' → ∃ o, heap[f j]? = some o ∧ o' = upO g o) (hg : ∀ i j, i < heap.length → g i = some j → f j = i ∧ j < heap'.length) (hH : ∀ i, i < e.H.length → i < heap.length → i < heap'.length ∧ f i = i) :
    ∃ ρ', Ok e heap' w ρ' Z Y ∧ ∀ x v, Val (Kn heap) ρ w Z Y x v → Val (Kn heap') ρ' w Z Y (upA g x) v := by
  let ρ' : Rho := fun j k => ρ (f j) k
  have kn : ∀ (j k : Nat), j < heap'.length → Kn heap (f j) k → Kn heap' j k := fun j k hj ⟨o, ho, hk⟩ => by
    obtain ⟨o1, h1, h2⟩ := hget j _ (List.getElem?_eq_getElem hj)
    rw [ho] at h1; cases h1
    exact ⟨_, List.getElem?_eq_getElem hj, by rw [h2, upO_lim]; exact hk⟩
  have up : ∀ i k j, g i = some j → Kn heap i k → Kn heap' j k ∧ ρ' j k = ρ i k := fun i k j hj hk => by
    have hlt : i < heap.length := hk.elim fun _ h => get_lt h.1
    obtain ⟨h1, h2⟩ := hg i j hlt hj
    subst h1
    exact ⟨kn j k h2 hk, rfl⟩
  have hval : ∀ x v, Val (Kn heap) ρ w Z Y x v → Val (Kn heap') ρ' w Z Y (upA g x) v := fun x v hv => val_up up hv
  have blk : ∀ (j : Nat) (o : Ob), (upO g o).blk ρ' j = o.blk ρ (f j) := fun j o => upO_blk fun k _ => rfl
  refine ⟨ρ', ⟨⟨fun j o' hj => ?_, fun i j o o' b hi hj hp hq => ?_, fun j o' b hj hp => ?_, h.rep.zy, h.rep.ylt⟩, fun j o' b hj hp => ?_, h.zone, h.z0, h.y0, fun i k hk => ?_, h.os, h.tape, h.output, h.size, h.keep⟩, hval⟩
  · obtain ⟨o, h1, rfl⟩ := hget j o' hj
    exact upO_holds up (fun k _ => rfl) (h.rep.obs _ o h1)
  · obtain ⟨p, h1, rfl⟩ := hget i o hi
    obtain ⟨q, h2, rfl⟩ := hget j o' hj
    rw [blk] at hp hq
    exact hinj i j (get_lt hi) (get_lt hj) (h.rep.apart _ _ p q b h1 h2 hp hq)
  · obtain ⟨o, h1, rfl⟩ := hget j o' hj
    rw [blk] at hp
    exact h.rep.own _ o b h1 hp
  · obtain ⟨o, h1, rfl⟩ := hget j o' hj
    rw [blk] at hp
    exact h.dom _ o b h1 hp
  · obtain ⟨h1, h2⟩ := h.rho i k hk
    have hi : i < e.H.length := by obtain ⟨o, ho, _⟩ := hk; exact get_lt ho
    have hi' : i < heap.length := by obtain ⟨o, ho, _⟩ := h1; exact get_lt ho
    obtain ⟨h3, h4⟩ := hH i hi hi'
    refine ⟨kn i k h3 (by rw [h4]; exact h1), ?_⟩
    show ρ (f i) k = _
    rw [h4]; exact h2
def keepG (m : Nat) : Nat → Option Nat := fun i => bif Nat.blt i m then some i else none
theorem keepG_some {m i j : Nat} (h : keepG m i = some j) : j = i ∧ i < m := by
  unfold keepG at h
  cases hb : Nat.blt i m with
  | true => rw [hb] at h; cases h; exact ⟨rfl, Nat.le_of_ble_eq_true hb⟩
  | false => rw [hb] at h; cases h
/-- Slots that are forgotten, or kept. -/
def Fg (g : Nat → Option Nat) (T T' : Nat → AV) : Prop := ∀ t, T' t = .any ∨ T' t = upA g (T t)
theorem Fg.nil {g : Nat → Option Nat} : Fg g T (fun _ => .any) := fun _ => .inl rfl
theorem Fg.pu {g : Nat → Option Nat} {T' : Nat → AV} {d : Nat} {x : AV} (hx : upA g (T d) = x) (k : Fg g T T') : Fg g T (pu T' d x) := fun t => by
  cases hb : Nat.beq t d with
  | true =>
    have := Nat.eq_of_beq_eq_true hb
    subst this
    simp only [Go.Proofs.Ytkichjejadkdgaa.pu, Nat.beq_refl, cond_true]
    exact .inr hx.symm
  | false =>
    simp only [Go.Proofs.Ytkichjejadkdgaa.pu, hb, cond_false]
    exact k t
theorem Wk.cut {T' : Nat → AV} {heap' : List Ob} (m : Nat) (hm : n.h ≤ m) (hh : (heap.take m).map (upO (keepG m)) = heap') (hT : Fg (keepG m) T T') : Wk n T heap T' heap' := by
  subst hh
  rintro e a w ⟨ρ, Z, Y, hR⟩
  have hlen : ((heap.take m).map (upO (keepG m))).length = min m heap.length := by simp
  obtain ⟨ρ', k1, k2⟩ := Ok.sel (heap := heap) hR.ok (heap' := (heap.take m).map (upO (keepG m))) id (keepG m) (fun i j _ _ h => h) (fun j o' hj => by
    rw [List.getElem?_map, List.getElem?_take] at hj
    split at hj
    · cases hx : heap[j]? with
      | none => rw [hx] at hj; cases hj
      | some o => rw [hx] at hj; cases hj; exact ⟨o, hx, rfl⟩
    · cases hj) (fun i j hi hj => by
    obtain ⟨rfl, h2⟩ := keepG_some hj
    exact ⟨rfl, by rw [hlen]; omega⟩) (fun i h1 h2 => by
    have h3 : e.H.length ≤ n.h := hR.hl
    exact ⟨by rw [hlen]; omega, rfl⟩)
  refine ⟨ρ', Z, Y, k1, hR.defers, hR.n, hR.hl, fun t v ht => ?_⟩
  rcases hT t with h | h
  · show Val _ _ _ _ _ (T' t) _
    rw [h]; exact .any _
  · show Val _ _ _ _ _ (T' t) _
    rw [h]; exact k2 _ _ (hR.at_ t v ht)
/-- A slice without room, as an own row. -/
theorem Wk.own (d : Nat) (hd : T d = .nl) (E : TypeId) (size : Nat) {heap' : List Ob} {N : Nat} (hat : AtL heap N [.row 0 E size []] heap') : Wk n T heap (pu T d (.sl N 0 0)) heap' := by
  rintro en a w ⟨ρ, Z, Y, hR⟩
  by_cases hdn : d < a.tmps.size
  · have hv := hR.at_ d _ (Array.getElem?_eq_getElem hdn)
    rw [show (St.mk n T heap).tmps d = .nl from hd] at hv
    generalize hav : a.tmps[d] = v at hv
    cases hv with
    | nl sa =>
    obtain ⟨ρ', k1, k2, k3, k4⟩ := hR.ok.push1 (o := .row 0 E size []) hat (w' := w) (pl := ⟨sa, 0, size⟩) ⟨rfl, rfl, rfl⟩ (Nat.le_refl _) (fun _ _ => rfl)
      (fun ρ' hN hρ => ⟨by rw [hN], [], .nil, by rw [hN]; exact .inl ⟨rfl, rfl, rfl⟩⟩) (fun b _ hb => by simp [Ob.blk] at hb)
    refine ⟨ρ', Z, Y, k1, hR.defers, hR.n, hR.hl, fun t v ht => ?_⟩
    by_cases e : t = d
    · subst e
      rw [Array.getElem?_eq_getElem hdn, hav] at ht
      cases ht
      have := Val.sl (Kn := Kn heap') (ρ := ρ') (w := w) (Z := Z) (Y := Y) (i := N) (k := 0) (n := 0) ⟨_, hat.one, Nat.le_refl _⟩ (Nat.zero_le _) (by rw [k3]; intro _; rfl)
      rw [k3] at this
      show Val _ _ _ _ _ (pu T t _ t) _
      simp only [pu, Nat.beq_refl, cond_true]
      exact this
    · have h1 : Nat.beq t d = false := by
        cases hb : Nat.beq t d
        · rfl
        · exact absurd (Nat.eq_of_beq_eq_true hb) e
      show Val _ _ _ _ _ (pu T d _ t) _
      simp only [pu, h1, cond_false]
      exact k2 _ _ (hR.at_ t v ht)
  · obtain ⟨ρ', k1, k2, k3, k4⟩ := hR.ok.push1 (o := .row 0 E size []) hat (w' := w) (pl := ⟨none, 0, size⟩) ⟨rfl, rfl, rfl⟩ (Nat.le_refl _) (fun _ _ => rfl)
      (fun ρ' hN hρ => ⟨by rw [hN], [], .nil, by rw [hN]; exact .inl ⟨rfl, rfl, rfl⟩⟩) (fun b _ hb => by simp [Ob.blk] at hb)
    refine ⟨ρ', Z, Y, k1, hR.defers, hR.n, hR.hl, fun t v ht => ?_⟩
    have e : t ≠ d := fun e => by rw [e] at ht; rw [Array.getElem?_eq_none (by omega)] at ht; cases ht
    have h1 : Nat.beq t d = false := by
      cases hb : Nat.beq t d
      · rfl
      · exact absurd (Nat.eq_of_beq_eq_true hb) e
    show Val _ _ _ _ _ (pu T d _ t) _
    simp only [pu, h1, cond_false]
    exact k2 _ _ (hR.at_ t v ht)
/-- A loop: S i: what is known at the head, in round i; m falls. -/
theorem AW.loop {c : Code} {ι : Type} (S : ι → Nat → AV) (H : ι → List Ob) (m : ι → Nat) (i0 : ι) (h0 : Wk n T heap (S i0) (H i0)) (hr : ∀ i, AW P c (thenQ (fun T' h' => ∃ j, m j < m i ∧ Wk n T' h' (S j) (H j)) Q) n (S i) (H i)) : AW P (.loop c) Q n T heap := by
  intro e a w hR b k cs
  have key : ∀ q i, m i = q → ∀ a w, Rep e ⟨n, S i, H i⟩ a w → ∃ ex a' w', lift e n Q ex a' w' ∧ Arrives P (lone (b.at a (.code c :: .inLoop c :: k)) cs w) b k cs ex a' w' := by
    intro q
    induction q using Nat.strongRecOn with
    | _ q ih =>
      intro i hi a w hI
      obtain ⟨ex, a₁, w₁, ⟨T', h', hq, hR'⟩, harr⟩ := hr i e a w hI b (.inLoop c :: k) cs
      cases ex with
      | normal =>
        obtain ⟨j, hj, hw⟩ := hq
        obtain ⟨e₂, a₂, w₂, hq₂, harr₂⟩ := ih (m j) (by omega) j rfl a₁ w₁ (hw e a₁ w₁ hR')
        exact ⟨e₂, a₂, w₂, hq₂, .of_steps (Steps.trans harr (.one step_inLoop)) harr₂⟩
      | exit id => exact ⟨_, a₁, w₁, ⟨T', h', hq, hR'⟩, .pass (x := .inLoop c) rfl (fun _ _ => .inl (by simp)) harr⟩
      | goto l => exact ⟨_, a₁, w₁, ⟨T', h', hq, hR'⟩, .pass (x := .inLoop c) rfl (fun _ _ => .inl (by simp)) harr⟩
      | ret => exact ⟨_, a₁, w₁, ⟨T', h', hq, hR'⟩, .pass (x := .inLoop c) rfl (fun _ _ => .inl (by simp)) harr⟩
      | panic ch => exact ⟨_, a₁, w₁, ⟨T', h', hq, hR'⟩, .pass (x := .inLoop c) rfl (fun _ _ => .inl (by simp)) harr⟩
      | outgrown => exact ⟨_, a₁, w₁, ⟨T', h', hq, hR'⟩, .pass (x := .inLoop c) rfl (fun _ _ => .inl (by simp)) harr⟩
  obtain ⟨ex, a', w', hq, harr⟩ := key _ i0 rfl a w (h0 e a w hR)
  exact ⟨ex, a', w', hq, .of_steps (.one step_loop) harr⟩

/-! the end of a function -/
def Fin (P : Program) (fn : Func) (R : AV → List Ob → Prop) (n : Fr) (T : Nat → AV) (heap : List Ob) : Prop :=
  ∀ e a w, Rep e ⟨n, T, heap⟩ a w → ∃ v r heap' ρ Z Y, (results fn a.tmps).run P w = .ok v w ∧ R r heap' ∧ Ok e heap' w ρ Z Y ∧ Val (Kn heap') ρ w Z Y r v
def retQ (P : Program) (fn : Func) (R : AV → List Ob → Prop) (n : Fr) : QS := fun ex T heap => match ex with
  | .normal => Fin P fn R n T heap
  | .ret => Fin P fn R n T heap
  | _ => False
theorem Fin.wk {fn : Func} {R : AV → List Ob → Prop} {T' : Nat → AV} {heap' : List Ob} (h : Wk n T heap T' heap') (k : Fin P fn R n T' heap') : Fin P fn R n T heap := fun e a w hR => k e a w (h e a w hR)
inductive ResA (P : Program) (n : Fr) (T : Nat → AV) (heap : List Ob) : ResultVar → AV → Prop
  | tmp {t : Nat} {x : AV} (h : evA n T (.tmp t) = x) : ResA P n T heap (.tmp t) x
  | cell {t i off : Nat} {ty t' : TypeId} {cs : List AV} {ds : TypeDesc} {x : AV} (h : evA n T (.tmp t) = .ptr i off) (hi : heap[i]? = some (.box t' cs)) (hu : P.underlying ty = some ds) (ha : (match ds with | .struct _ | .array _ _ => true | _ => false) = false) (hc : cs[off]? = some x) : ResA P n T heap (.cell t ty) x
  | agg {t i off : Nat} {ty t' : TypeId} {cs : List AV} {ds : TypeDesc} {z : Option Value} {size bytes : Nat} {us : List AV} (h : evA n T (.tmp t) = .ptr i off) (hi : heap[i]? = some (.box t' cs)) (hu : P.underlying ty = some ds) (ha : (match ds with | .struct _ | .array _ _ => true | _ => false) = true)
      (hI : (P.info? ty).map (fun i => (i.zero, i.size, i.bytes)) = some (z, size, bytes)) (hc : (cs.drop off).take size = us) (hl : us.length = size) : ResA P n T heap (.cell t ty) (.agg us)
inductive ResL (P : Program) (n : Fr) (T : Nat → AV) (heap : List Ob) : List ResultVar → List AV → Prop
  | nil : ResL P n T heap [] []
  | cons {r : ResultVar} {x : AV} {rs : List ResultVar} {xs : List AV} (h : ResA P n T heap r x) (k : ResL P n T heap rs xs) : ResL P n T heap (r :: rs) (x :: xs)
theorem ResA.run {e : Env} {a : Act} {w : World} {ρ : Rho} {Z Y : Nat → Prop} (hR : Rp e ⟨n, T, heap⟩ a w ρ Z Y) {r : ResultVar} {x : AV} (h : ResA P n T heap r x) : ∃ v, (resOf a.tmps r).run P w = .ok v w ∧ Val (Kn heap) ρ w Z Y x v := by
  cases h with
  | @tmp t x h =>
    have hv := hR.eval (.tmp t)
    rw [h] at hv
    exact ⟨_, resOf_tmp t rfl, hv⟩
  | @cell t i off ty t' cs ds x h hi hu ha hc =>
    have hv := hR.eval (.tmp t)
    rw [h] at hv
    obtain ⟨b, us, h1, _, h2, h3, h4⟩ := hR.ok.rep.box hi hv
    have hlt := get_lt hc
    rw [h3.len] at hlt
    exact ⟨us[off], resOf_cell t h1 (run_load_one hu ha (by rw [cell_of_row w b off _ _ _ h2]; simp [List.getElem?_eq_getElem hlt])), h3.at_ off x _ hc (List.getElem?_eq_getElem hlt)⟩
  | @agg t i off ty t' cs ds z size bytes us' h hi hu ha hI hc hl =>
    have hv := hR.eval (.tmp t)
    rw [h] at hv
    obtain ⟨b, us, h1, _, h2, h3, h4⟩ := hR.ok.rep.box hi hv
    subst hc
    have hlen : ((us.drop off).take size).length = size := by
      rw [List.length_take, List.length_drop] at hl ⊢
      rw [h3.len] at hl; exact hl
    refine ⟨.agg ((us.drop off).take size).toArray, resOf_cell t h1 (run_load_agg hu ha hI hlen fun j u hj => ?_), .agg (by rw [hl, hlen]) (fun u hu => h4 u (List.mem_of_mem_drop (List.mem_of_mem_take hu))) (fun j x u hj hu => ?_)⟩
    · rw [add_at, cell_of_row w b _ _ _ _ h2]
      rw [List.getElem?_take] at hj
      split at hj
      · rw [List.getElem?_drop] at hj; simpa using hj
      · cases hj
    · rw [List.getElem?_take] at hj hu
      split at hj
      · rename_i hlt
        rw [if_pos hlt] at hu
        rw [List.getElem?_drop] at hj hu
        exact h3.at_ _ x u hj hu
      · cases hj
theorem ResL.run {e : Env} {a : Act} {w : World} {ρ : Rho} {Z Y : Nat → Prop} (hR : Rp e ⟨n, T, heap⟩ a w ρ Z Y) {rs : List ResultVar} {xs : List AV} (h : ResL P n T heap rs xs) : ∃ vs, (rs.mapM (resOf a.tmps)).run P w = .ok vs w ∧ AVs (Val (Kn heap) ρ w Z Y) xs vs := by
  induction h with
  | nil => exact ⟨[], rfl, rfl, fun j x u hj => by simp at hj⟩
  | @cons r x rs xs h k ih =>
    obtain ⟨v, h1, h2⟩ := h.run hR
    obtain ⟨vs, h3, h4⟩ := ih
    refine ⟨v :: vs, ?_, by simp [h4.len], fun j y u hj hu => ?_⟩
    · rw [List.mapM_cons]
      simp only [Sem.run_bind, h1, Result.andThen_ok, h3, Sem.run_pure]
    · cases j with
      | zero => simp at hj hu; subst hj hu; exact h2
      | succ j => exact h4.at_ j y u (by simpa using hj) (by simpa using hu)
def resV : List AV → AV
  | [x] => x
  | l => .tup l
def findG (l : List Nat) (h i : Nat) : Option Nat := match l with
  | [] => none
  | x :: l => bif Nat.beq x i then some h else findG l (h + 1) i
/-- the first h objects stay; those of K come behind them. -/
def compG (h : Nat) (K : List Nat) : Nat → Option Nat := fun i => bif Nat.blt i h then some i else findG K h i
theorem findG_some : ∀ {l : List Nat} {h i j : Nat}, findG l h i = some j → h ≤ j ∧ l[j - h]? = some i
  | [], h, i, j, e => by simp [findG] at e
  | x :: l, h, i, j, e => by
    unfold findG at e
    cases hb : Nat.beq x i with
    | true => rw [hb] at e; cases e; have := Nat.eq_of_beq_eq_true hb; subst this; exact ⟨Nat.le_refl _, by simp⟩
    | false =>
      rw [hb] at e
      obtain ⟨h1, h2⟩ := findG_some e
      refine ⟨by omega, ?_⟩
      rw [show j - h = (j - (h + 1)) + 1 by omega]
      simpa using h2
theorem Fin.mk {fn : Func} {R : AV → List Ob → Prop} {rs : List ResultVar} (hrs : fn.results = rs.toArray) {xs : List AV} (hx : ResL P n T heap rs xs) (K : List Nat) (hK : K.Nodup) (hK1 : ∀ i ∈ K, n.h ≤ i ∧ i < heap.length) (hn : n.h ≤ heap.length)
    {r : AV} (hr : upA (compG n.h K) (resV xs) = r) {heap' : List Ob} (hh : ((heap.take n.h) ++ K.map (fun i => heap.getD i (.gone 0))).map (upO (compG n.h K)) = heap') (hR : R r heap') : Fin P fn R n T heap := by
  subst hr hh
  rintro e a w ⟨ρ, Z, Y, hRp⟩
  obtain ⟨vs, h1, h2⟩ := hx.run hRp
  have hlt : (heap.take n.h).length = n.h := by rw [List.length_take]; omega
  have hlen : (((heap.take n.h) ++ K.map (fun i => heap.getD i (.gone 0))).map (upO (compG n.h K))).length = n.h + K.length := by simp; omega
  let f : Nat → Nat := fun j => if j < n.h then j else K.getD (j - n.h) 0
  have hf : ∀ j, j < n.h + K.length → ¬ j < n.h → K[j - n.h]? = some (f j) := fun j hj hn' => by
    show _ = some (if j < n.h then j else K.getD (j - n.h) 0)
    rw [if_neg hn', List.getD_eq_getElem?_getD, List.getElem?_eq_getElem (by omega)]
    rfl
  obtain ⟨ρ', k1, k2⟩ := Ok.sel (heap := heap) hRp.ok (heap' := ((heap.take n.h) ++ K.map (fun i => heap.getD i (.gone 0))).map (upO (compG n.h K))) f (compG n.h K) (fun i j hi hj h => by
    rw [hlen] at hi hj
    by_cases ci : i < n.h <;> by_cases cj : j < n.h
    · simpa only [f, if_pos ci, if_pos cj] using h
    · have := hK1 _ (List.mem_of_getElem? (hf j hj cj))
      rw [← h] at this
      simp only [f, if_pos ci] at this; omega
    · have := hK1 _ (List.mem_of_getElem? (hf i hi ci))
      rw [h] at this
      simp only [f, if_pos cj] at this; omega
    · have e1 := hf i hi ci
      have e2 := hf j hj cj
      rw [← h] at e2
      have key : ∀ p q, p < q → K[p]? = some (f i) → K[q]? = some (f i) → False := fun p q hpq h1 h2 => by
        have a1 := get_lt h1
        have a2 := get_lt h2
        rw [List.getElem?_eq_getElem a1] at h1
        rw [List.getElem?_eq_getElem a2] at h2
        exact List.pairwise_iff_getElem.1 hK p q a1 a2 hpq ((Option.some.inj h1).trans (Option.some.inj h2).symm)
      rcases Nat.lt_trichotomy (i - n.h) (j - n.h) with c | c | c
      · exact (key _ _ c e1 e2).elim
      · omega
      · exact (key _ _ c e2 e1).elim) (fun j o' hj => by
    have hjl := get_lt hj
    rw [hlen] at hjl
    rw [List.getElem?_map] at hj
    by_cases cj : j < n.h
    · rw [List.getElem?_append_left (by omega), List.getElem?_take, if_pos cj] at hj
      cases hx : heap[j]? with
      | none => rw [hx] at hj; cases hj
      | some o => rw [hx] at hj; cases hj; exact ⟨o, by simp only [f, if_pos cj]; exact hx, rfl⟩
    · rw [List.getElem?_append_right (by omega), hlt, List.getElem?_map, hf j hjl cj] at hj
      have hb := hK1 _ (List.mem_of_getElem? (hf j hjl cj))
      simp only [Option.map_some, List.getD_eq_getElem?_getD, List.getElem?_eq_getElem hb.2, Option.getD_some, Option.some.injEq] at hj
      exact ⟨_, List.getElem?_eq_getElem hb.2, hj.symm⟩) (fun i j hi hj => by
    rw [hlen]
    unfold compG at hj
    cases hb : Nat.blt i n.h with
    | true => rw [hb] at hj; cases hj; have := Nat.le_of_ble_eq_true hb; exact ⟨by simp only [f]; rw [if_pos (by omega)], by omega⟩
    | false =>
      rw [hb] at hj
      obtain ⟨h3, h4⟩ := findG_some hj
      have := get_lt h4
      refine ⟨?_, by omega⟩
      have h5 := hf j (by omega) (by omega)
      rw [h4] at h5
      exact (Option.some.inj h5).symm) (fun i h3 h4 => by
    have h5 : e.H.length ≤ n.h := hRp.hl
    exact ⟨by rw [hlen]; omega, by simp only [f]; rw [if_pos (by omega)]⟩)
  have hres : (results fn a.tmps).run P w = .ok (match vs with | [v] => v | l => .tuple l.toArray) w := by
    rw [results_eq, hrs]
    have hm : ((rs.toArray).mapM (resOf a.tmps)).run P w = .ok vs.toArray w := by
      rw [List.mapM_toArray]
      simp only [map_eq_pure_bind, Sem.run_bind, h1, Result.andThen_ok, Sem.run_pure]
    simp only [Sem.run_bind, hm, Result.andThen_ok]
    match vs with
    | [] => rfl
    | [v] => rfl
    | v :: u :: l => simp
  refine ⟨_, _, _, ρ', Z, Y, hres, hR, k1, k2 _ _ ?_⟩
  match xs, vs, h2 with
  | [], [], _ => exact .tup (us := []) rfl (fun j x u hj => by simp at hj)
  | [x], [v], h2 => exact h2.at_ 0 x v rfl rfl
  | x :: y :: l, v :: u :: m, h2 => exact .tup h2.len h2.at_
  | [], _ :: _, h2 => have := h2.len; simp at this
  | [_], [], h2 => have := h2.len; simp at this
  | [_], _ :: _ :: _, h2 => have := h2.len; simp at this
  | _ :: _ :: _, [], h2 => have := h2.len; simp at this
  | _ :: _ :: _, [_], h2 => have := h2.len; simp at this
theorem Fin.mk' {fn : Func} {R : AV → List Ob → Prop} {rs : List ResultVar} (hrs : fn.results = rs.toArray) {xs : List AV} (hx : ResL P n T heap rs xs) (K : List Nat) (hK : K.Nodup) (hK1 : (K.all fun i => Nat.ble n.h i && Nat.blt i heap.length) = true) (hn : Nat.ble n.h heap.length = true)
    {r : AV} (hr : upA (compG n.h K) (resV xs) = r) {heap' : List Ob} (hh : ((heap.take n.h) ++ K.map (fun i => heap.getD i (.gone 0))).map (upO (compG n.h K)) = heap') (hR : R r heap') : Fin P fn R n T heap :=
  Fin.mk hrs hx K hK (fun i hi => by
    have := List.all_eq_true.1 hK1 i hi
    rw [Bool.and_eq_true] at this
    exact ⟨Nat.le_of_ble_eq_true this.1, Nat.le_of_ble_eq_true this.2⟩) (Nat.le_of_ble_eq_true hn) hr hh hR
theorem Fin.mkd {fn : Func} {r0 : AV} {L0 : List Ob} {rs : List ResultVar} (hrs : fn.results = rs.toArray) {xs : List AV} (hx : ResL P n T heap rs xs) (K : List Nat) (hK : K.Nodup) (hK1 : (K.all fun i => Nat.ble n.h i && Nat.blt i heap.length) = true) (hn : Nat.ble n.h heap.length = true)
    (hr : upA (compG n.h K) (resV xs) = r0) (hh : ((heap.take n.h) ++ K.map (fun i => heap.getD i (.gone 0))).map (upO (compG n.h K)) = L0) : Fin P fn (fun r L => r = r0 ∧ L = L0) n T heap := Fin.mk' hrs hx K hK hK1 hn hr hh ⟨rfl, rfl⟩
def argT (args : List AV) : Nat → AV := fun t => args.getD t (.tup [])
theorem C.enter {f : FuncId} {fn : Func} {c : Code} (hf : P.funcs[f]? = some fn) (hb : fn.body = some c) {args : List AV} {H : List Ob} {R : AV → List Ob → Prop} {N : Nat} (hN : max args.length fn.ntmps = N) (h : AW P c (retQ P fn R ⟨N, H.length⟩) ⟨N, H.length⟩ (argT args) H) : C P f args H R := by
  subst hN
  intro e vs hH hrep hdom hv
  refine calls_of_wp hf hb (wp_mono (h e _ e.W ?_) fun ex a w ⟨T', h', q, hR'⟩ => ?_)
  · have hl := hv.len
    refine ⟨e.ρ, e.Z, e.Y, ⟨hrep, hdom, fun b h => .inl h, fun b h => h, fun b h => h, fun i k hk => ⟨by rw [hH] at hk; exact hk, rfl⟩, rfl, rfl, rfl, Nat.le_refl _, fun b _ => rfl⟩, rfl, by simp; omega, by rw [hH]; exact Nat.le_refl _, fun t v ht => ?_⟩
    show Val _ _ _ _ _ (argT args t) _
    simp only at ht
    by_cases hlt : t < vs.length
    · rw [Array.getElem?_append_left (by simpa using hlt)] at ht
      have h1 : vs[t]? = some v := by simpa using ht
      have h2 : args[t]? = some (args[t]'(by omega)) := List.getElem?_eq_getElem (by omega)
      simp only [argT, List.getD_eq_getElem?_getD, h2, Option.getD_some]
      exact hv.at_ t _ v h2 h1
    · rw [Array.getElem?_append_right (by simpa using hlt), Array.getElem?_replicate] at ht
      split at ht
      · cases ht
        have h2 : args[t]? = none := List.getElem?_eq_none (by omega)
        simp only [argT, List.getD_eq_getElem?_getD, h2, Option.getD_none]
        exact .tup (us := []) rfl (fun j x u hj => by simp at hj)
      · cases ht
  · obtain ⟨_, _, _, hR''⟩ := hR'
    have key : ∀ hF : Fin P fn R ⟨max args.length fn.ntmps, H.length⟩ T' h', a.defers = [] ∧ ∃ v, (results fn a.tmps).run P w = .ok v w ∧ ∃ v' r heap ρ Z Y, Ending.returned v = .returned v' ∧ R r heap ∧ Ok e heap w ρ Z Y ∧ Val (Kn heap) ρ w Z Y r v' := fun hF => by
      obtain ⟨v, r, heap', ρ, Z, Y, h1, h2, h3, h4⟩ := hF e a w ⟨_, _, _, hR''⟩
      exact ⟨hR''.defers, v, h1, v, r, heap', ρ, Z, Y, rfl, h2, h3, h4⟩
    cases ex with
    | normal => exact key q
    | ret => exact key q
    | _ => exact q.elim
end
end Go.Proofs.Ytkichjejadkdgaa
