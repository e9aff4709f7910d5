/- Joined: XTSegF, XTLaw08s, XTSmall. -/
import Derived.Test.YtmljglphegeilaaKAd
namespace Go.Proofs.Ytmljglphegeilaa
set_option linter.unusedVariables false
set_option linter.unusedSimpArgs false
set_option linter.unnecessarySimpa false
open Go.RowKit Go.Shelf
attribute [local go_sem] Oper.semAt_some
set_option maxRecDepth 100000
set_option maxHeartbeats 4000000
theorem chunk_in (a : Option Addr) (len cap m : Nat) (hm : 0 < m) (w : World) :
    CallsIn Fence.wide 10 Try.prog 16 #[.slice a len cap, .int .i64 m] w fun e w' => e = .returned (.func (.func 26) #[] #[.pointer (some ⟨w.heap.size, 0, none⟩), .pointer (some ⟨w.heap.size + 1, 0, none⟩)]) ∧ w' = (w.alloc (.cells #[.slice a len cap] 22)).alloc (.cells #[.int .i64 m] 3) := by
  refine callsIn_of_wp Try.func16 rfl trivial ?_ rfl
  simp only [Try.ntmps16, List.size_toArray, List.length_cons, List.length_nil, Nat.reduceAdd, Nat.reduceSub, Array.replicate_succ, Array.replicate_zero, List.push_toArray, List.append_toArray, List.nil_append, List.cons_append]
  have h1 : ¬ ((m : Int) < 1) := by omega
  gi_wp2
  go_ret
  exact ⟨rfl, rfl⟩
theorem chunk0_in (lp Bs : Nat) (a : Option Addr) (cap : Nat) (Bn : Nat) (J : List Nat → World → Prop) (W : World) (hBs : W.cell? ⟨Bs, 0, none⟩ = some (.slice a 0 cap)) (h0 : J [] W) :
    CallsIn Fence.wide 10 Try.prog 26 #[.func (.yield lp) #[] #[], .pointer (some ⟨Bs, 0, none⟩), .pointer (some ⟨Bn, 0, none⟩)] W fun e W' => (∃ v, e = .returned v) ∧ J [] W' := by
  refine callsIn_of_wp Try.func26 rfl trivial ?_ rfl
  simp only [Try.ntmps26, List.size_toArray, List.length_cons, List.length_nil, Nat.reduceAdd, Nat.reduceSub, Array.replicate_succ, Array.replicate_zero, List.push_toArray, List.append_toArray, List.nil_append, List.cons_append]
  gi_wp2
  gi_loopw [4] (fun i wr => i = .int .i64 0 ∧ J [] wr ∧ wr.cell? ⟨Bs, 0, none⟩ = some (.slice a 0 cap)) (fun _ _ => 0)
  case atStart => exact ⟨rfl, h0, hBs⟩
  case round =>
    obtain ⟨rfl, hJs, hs⟩ := hrel
    gi_wp2
    go_end0
    exact ⟨⟨_, rfl⟩, hJs⟩
theorem drew_grown (A : World) : A.grownBy A.drew none := ⟨rfl, rfl, rfl, Nat.le_refl _, fun _ _ _ => rfl⟩
theorem chunk_stops (a : Option Addr) (len cap m : Nat) (hm : 0 < m) (hm2 : m ≤ 9223372036854775807) (hlen : len ≤ 1048576) (hcap : len ≤ cap) (ha : a = none → len = 0) (Bs Bn : Nat) (w : World) (h1 : Bs < w.heap.size) (h2 : Bn < w.heap.size)
    (hBs : w.cell? ⟨Bs, 0, none⟩ = some (.slice a len cap)) (hBn : w.cell? ⟨Bn, 0, none⟩ = some (.int .i64 m)) :
    SeqStopsK Fence.wide 10 Try.prog 26 #[.pointer (some ⟨Bs, 0, none⟩), .pointer (some ⟨Bn, 0, none⟩)] (fun k => #[pcV (adr a) m len k]) (fun A B => B.heap[Bs]? = A.heap[Bs]? ∧ B.heap[Bn]? = A.heap[Bn]?) (fun ys => ys = List.range (pcn m len)) (fun _ => True) (pcn m len) w := fun l J Jx W hW hJ _ hY h0 => by
  have c1 := (hW.cell (p := ⟨Bs, 0, none⟩) h1).trans hBs
  have c2 := (hW.cell (p := ⟨Bn, 0, none⟩) h2).trans hBn
  cases a with
  | none =>
    obtain rfl := ha rfl
    exact (chunk0_in l Bs none cap Bn J W c1 h0).mono fun e W' ⟨he, hj⟩ => ⟨he, .inl ⟨_, rfl, hj⟩⟩
  | some b =>
    exact chunk1_in l Bs Bn b len cap m _ hm hm2 hlen hcap rfl (fun A B => B.heap[Bs]? = A.heap[Bs]? ∧ B.heap[Bn]? = A.heap[Bn]?) J Jx (fun s A h => hJ s A _ none h (drew_grown A) (fun r e => by cases e))
      (fun A B hk => ⟨fun h => (World.cell?_of_block hk.1).trans h, fun h => (World.cell?_of_block hk.2).trans h⟩) hY W c1 c2 h0
theorem HRep.same {heap : List Ob} {A B : World} {ρ : Rho} {Z Y : Nat → Prop} (h : HRep heap A ρ Z Y) (hs : A.heap.size ≤ B.heap.size) (hy : ∀ b, Y b → B.heap[b]? = A.heap[b]?) (hb : ∀ (i : Nat) (o : Ob) (b : Nat), heap[i]? = some o → o.blk ρ i = some b → B.heap[b]? = A.heap[b]?) : HRep heap B ρ Z Y :=
  ⟨fun i o hi => Ob.holds_mono (fun x v hv => hv.mono (fun i k hk => ⟨hk, rfl⟩) (fun b hz => ⟨hz, hy b (h.zy b hz)⟩) (fun b hb => ⟨hb, hy b hb⟩)) (fun _ _ => rfl) (fun b hz => ⟨hz, hy b (h.zy b hz)⟩) (fun b hb' => hb i o b hi hb') (h.obs i o hi), h.apart, fun i o b hi hb' => ⟨Nat.lt_of_lt_of_le (h.own i o b hi hb').1 hs, (h.own i o b hi hb').2⟩, h.zy, fun b hb => Nat.lt_of_lt_of_le (h.ylt b hb) hs⟩
theorem HRep.cells {heap : List Ob} {w : World} {ρ : Rho} {Z Y : Nat → Prop} (h : HRep heap w ρ Z Y) {i : Nat} {o : Ob} {b : Nat} (hi : heap[i]? = some o) (hm : ∀ es, o ≠ .mp es) (hb : o.blk ρ i = some b) : ∃ q : Obj, w.heap[b]? = some q ∧ q.isCells = true := by
  have ho := h.obs i o hi
  have row : ∀ {a : Option Addr} {n c : Nat} {E : TypeId} {s : Nat} {xs : List Value}, (Res.row a n c E s xs).holds 0 w → (if c = 0 then none else a.map (·.block)) = some b → ∃ q : Obj, w.heap[b]? = some q ∧ q.isCells = true := by
    intro a n c E s xs h hb
    rcases h with ⟨hc, _⟩ | ⟨hc, hh⟩
    · rw [if_pos hc] at hb; cases hb
    · rw [if_neg (by omega)] at hb
      rcases hh.2 with ⟨e, _⟩ | ⟨g, cap, cur, e, h4, h5, h6, h7, h8, h9⟩
      · simp only [Value.slice.injEq] at e; omega
      · simp only [Value.slice.injEq] at e
        obtain ⟨rfl, _, _⟩ := e
        cases hb
        exact ⟨_, h5, rfl⟩
  cases o with
  | box T cs =>
    obtain ⟨b', us, h1, h2, _⟩ := ho
    simp only [Ob.blk, h1, Option.map_some, Option.some.injEq] at hb
    subst hb
    exact ⟨_, h2, rfl⟩
  | row k E s els => obtain ⟨_, xs, _, h3⟩ := ho; exact row h3 hb
  | gone => cases hb
  | hole => cases hb
  | mp es => exact absurd rfl (hm es)
  | ra k E cs => obtain ⟨_, us, _, _, h3⟩ := ho; exact row h3 hb
theorem Frz.cells {w : World} {Z : Nat → Prop} {x : Tr} {u : Value} (h : Frz w Z x u) : Frz w (fun b => Z b ∧ ∃ q : Obj, w.heap[b]? = some q ∧ q.isCells = true) x u := by
  induction h with
  | v h => exact .v h
  | @lst els a n c size xs hr hz hn hs hf ih =>
    refine .lst hr (fun hne => ⟨hz hne, ?_⟩) hn hs ih
    obtain ⟨x, xs', rfl⟩ := List.exists_cons_of_ne_nil hne
    have := hr.cells 0 x rfl
    obtain ⟨q, h1, h2⟩ := cells_of_cell this
    rw [add_block] at h1
    exact ⟨q, h1, h2⟩
def sgH (k q : Nat) (els : List (List Tr)) : List Ob := [.box 26 [.sl 1 k q], .row k 22 1 els]
def sgW (e : Env) (els : List Nat → List (List Tr)) (pre : List Nat) (W : World) : Prop :=
  ∃ k ρ Z, Ok e (sgH k pre.length (els pre)) W ρ Z (fun b => e.Y b ∨ Z b) ∧ (ρ 0 0).a = some ⟨e.W.heap.size + 1, 0, none⟩ ∧ (∀ b, (Ob.row k 22 1 (els pre)).blk ρ 1 = some b → e.W.heap.size + 4 ≤ b) ∧ e.W.heap.size + 4 ≤ W.heap.size ∧ ∀ b, Z b → b < e.W.heap.size ∨ ∃ q : Obj, W.heap[b]? = some q ∧ q.isCells = true
theorem sgH_cases {k q : Nat} {els : List (List Tr)} {i : Nat} {o : Ob} (h : (sgH k q els)[i]? = some o) : (i = 0 ∧ o = .box 26 [.sl 1 k q]) ∨ (i = 1 ∧ o = .row k 22 1 els) := by
  rcases i with _ | _ | i
  · cases h; exact .inl ⟨rfl, rfl⟩
  · cases h; exact .inr ⟨rfl, rfl⟩
  · simp [sgH] at h
theorem sgW_own (e : Env) (els : List Nat → List (List Tr)) (heY : ∀ b, e.Y b → b < e.W.heap.size) : OwnFrom (e.W.heap.size + 4) (sgW e els) := by
  rintro pre A B row ⟨k, ρ, Z, h1, h2, h3, h4, h5⟩ hg hr
  have same : ∀ b, b < A.heap.size → (b < e.W.heap.size + 4 ∨ ∃ q : Obj, A.heap[b]? = some q ∧ q.isCells = true) → B.heap[b]? = A.heap[b]? := fun b hb hc => hg.block b hb (fun e' => by
    obtain ⟨r1, q, r2, r3⟩ := hr b e'.symm
    rcases hc with hc | ⟨q', c1, c2⟩
    · omega
    · rw [r2] at c1; cases c1; rw [r3] at c2; cases c2)
  have hY : ∀ b, e.Y b ∨ Z b → B.heap[b]? = A.heap[b]? := fun b hb => same b (h1.rep.ylt b hb) (by
    rcases hb with hb | hb
    · exact .inl (by have := heY b hb; omega)
    · rcases h5 b hb with h | h
      · exact .inl (by omega)
      · exact .inr h)
  have hB : ∀ (i : Nat) (o : Ob) (b : Nat), (sgH k pre.length (els pre))[i]? = some o → o.blk ρ i = some b → B.heap[b]? = A.heap[b]? := fun i o b hi hb => same b (h1.rep.own i o b hi hb).1 (.inr (h1.rep.cells hi (by rcases sgH_cases hi with ⟨_, rfl⟩ | ⟨_, rfl⟩ <;> exact fun es => by simp) hb))
  refine ⟨k, ρ, Z, h1.mono (h1.rep.same hg.size hY hB) (fun j k hj => ⟨hj, rfl⟩) ⟨hg.os, hg.tape, hg.output⟩ hg.size h1.dom (fun _ h => h) (fun _ h => h) (fun b hb => .inl hb) (fun b hb hD => same b hb (.inl ?_)), h2, h3, Nat.le_trans h4 hg.size, fun b hb => ?_⟩
  · rcases Nat.lt_or_ge b e.W.heap.size with h | h
    · omega
    · exact absurd (e.big b h) hD
  · rcases h5 b hb with h | ⟨q, c1, c2⟩
    · exact .inl h
    · exact .inr ⟨q, by rw [hY b (.inr hb)]; exact c1, c2⟩
def rdE (W : World) (H : List Ob) (ρ : Rho) (Z Y : Nat → Prop) (h : HRep H W ρ Z Y) : Env where
  W := W
  D := fun b => (∃ (i : Nat) (o : Ob), H[i]? = some o ∧ o.blk ρ i = some b) ∨ W.heap.size ≤ b
  H := H
  ρ := ρ
  Z := Z
  Y := Y
  big := fun b hb => .inr hb
  yd := fun b hy hd => by
    rcases hd with ⟨i, o, hi, hb⟩ | hb
    · exact (h.own i o b hi hb).2 hy
    · have := h.ylt b hy; omega
theorem rdE_ok {W : World} {H : List Ob} {ρ : Rho} {Z Y : Nat → Prop} (h : HRep H W ρ Z Y) : Ok (rdE W H ρ Z Y h) H W ρ Z Y :=
  ⟨h, fun i o b hi hb => .inl ⟨i, o, hi, hb⟩, fun b hb => .inl hb, fun _ h => h, fun _ h => h, fun i k hk => ⟨hk, rfl⟩, rfl, rfl, rfl, Nat.le_refl _, fun _ _ => rfl⟩
theorem sg_step {e : Env} (heH : e.H = []) (heZ : ∀ b, e.Z b → b < e.W.heap.size) {k q k' q' : Nat} {els els' : List (List Tr)} {W W' : World} {ρ : Rho} {Z : Nat → Prop} (h1 : Ok e (sgH k q els) W ρ Z (fun b => e.Y b ∨ Z b)) (h2 : (ρ 0 0).a = some ⟨e.W.heap.size + 1, 0, none⟩) (h3 : ∀ b, (Ob.row k 22 1 els).blk ρ 1 = some b → e.W.heap.size + 4 ≤ b)
    (h4 : e.W.heap.size + 4 ≤ W.heap.size) {a' : Act} {T' : Nat → AV} {n : Fr} (hR : Rep (rdE W (sgH k q els) ρ Z _ h1.rep) ⟨n, T', sgH k' q' els'⟩ a' W') :
    KeepsFrom (e.W.heap.size + 4) W W' ∧ (W'.heap[e.W.heap.size + 2]? = W.heap[e.W.heap.size + 2]? ∧ W'.heap[e.W.heap.size + 3]? = W.heap[e.W.heap.size + 3]?) ∧
    ∃ ρ Z, Ok e (sgH k' q' els') W' ρ Z (fun b => e.Y b ∨ Z b) ∧ (ρ 0 0).a = some ⟨e.W.heap.size + 1, 0, none⟩ ∧ (∀ b, (Ob.row k' 22 1 els').blk ρ 1 = some b → e.W.heap.size + 4 ≤ b) ∧ e.W.heap.size + 4 ≤ W'.heap.size ∧ ∀ b, Z b → b < e.W.heap.size ∨ ∃ q : Obj, W'.heap[b]? = some q ∧ q.isCells = true := by
  obtain ⟨ρ', Z', Y', hp⟩ := hR
  have ok' := hp.ok
  have hsz : W.heap.size ≤ W'.heap.size := ok'.size
  have hes := h1.size
  have own : ∀ (i : Nat) (o : Ob) (b : Nat), (sgH k q els)[i]? = some o → o.blk ρ i = some b → (i = 0 ∧ b = e.W.heap.size + 1) ∨ e.W.heap.size + 4 ≤ b := fun i o b hi hb => by
    rcases sgH_cases hi with ⟨rfl, rfl⟩ | ⟨rfl, rfl⟩
    · simp only [Ob.blk, h2, Option.map_some, Option.some.injEq] at hb
      exact .inl ⟨rfl, hb.symm⟩
    · exact .inr (h3 b hb)
  have keep : ∀ b, b < W.heap.size → (∀ (i : Nat) (o : Ob), (sgH k q els)[i]? = some o → o.blk ρ i ≠ some b) → W'.heap[b]? = W.heap[b]? := fun b hb hn => ok'.keep b (fun hD => by
    rcases hD with ⟨i, o, hi, hb'⟩ | hD
    · exact hn i o hi hb'
    · exact absurd hD (by show ¬ W.heap.size ≤ b; omega))
  have lt_of : ∀ {b : Nat} {o : Obj} {w : World}, w.heap[b]? = some o → b < w.heap.size := fun h => (Array.getElem?_eq_some_iff.1 h).1
  have e0 : ρ' 0 0 = ρ 0 0 := (ok'.rho 0 0 ⟨_, rfl, by simp [Ob.lim]⟩).2
  have b0 : (Ob.box 26 [.sl 1 k' q']).blk ρ' 0 = some (e.W.heap.size + 1) := by simp only [Ob.blk, e0, h2, Option.map_some]
  have eD : ∀ b, (rdE W (sgH k q els) ρ Z _ h1.rep).D b → e.D b := fun b hD => by
    rcases hD with ⟨i, o, hi, hb⟩ | hD
    · exact h1.dom i o b hi hb
    · exact e.big b (Nat.le_trans hes hD)
  refine ⟨⟨hsz, fun j o hj ho hc => (keep j (lt_of ho) (fun i q hi hb => ?_)).trans ho⟩, ⟨keep _ (by omega) (fun i o hi hb => by have := own i o _ hi hb; omega), keep _ (by omega) (fun i o hi hb => by have := own i o _ hi hb; omega)⟩, ρ', fun b => Z' b ∧ (b < e.W.heap.size ∨ ∃ q : Obj, W'.heap[b]? = some q ∧ q.isCells = true), ?_, by rw [e0]; exact h2, fun b hb => ?_, by omega, fun b hb => hb.2⟩
  · obtain ⟨q', c1, c2⟩ := h1.rep.cells hi (by rcases sgH_cases hi with ⟨_, rfl⟩ | ⟨_, rfl⟩ <;> exact fun es => by simp) hb
    rw [ho] at c1; cases c1; rw [hc] at c2; cases c2
  · have hr := ok'.rep
    have yy : ∀ b, e.Y b → Y' b := fun b hb => ok'.y0 b (.inl hb)
    refine ⟨⟨fun i o hi => ?_, hr.apart, fun i o b hi hb => ⟨(hr.own i o b hi hb).1, fun hy => (hr.own i o b hi hb).2 ?_⟩, fun b hb => .inr hb, fun b hb => hr.ylt b ?_⟩, fun i o b hi hb => eD b (ok'.dom i o b hi hb), fun b hb => ?_, fun b hb => ⟨ok'.z0 b (h1.z0 b hb), .inl (heZ b hb)⟩, fun b hb => .inl hb, fun i k hk => ?_, ok'.os.trans h1.os, ok'.tape.trans h1.tape, ok'.output.trans h1.output, Nat.le_trans hes hsz, fun b hD => ?_⟩
    · have ho := hr.obs i o hi
      rcases sgH_cases hi with ⟨rfl, rfl⟩ | ⟨rfl, rfl⟩
      · obtain ⟨b, us, c1, c2, c3, c4⟩ := ho
        refine ⟨b, us, c1, c2, ⟨c3.len, fun j x u hj hu => ?_⟩, c4⟩
        have hv := c3.at_ j x u hj hu
        have := get_lt hj
        obtain rfl : j = 0 := by simp at this; omega
        cases hj
        cases hv with
        | sl hk hc h0 => exact .sl hk hc h0
      · obtain ⟨c1, xs, c2, c3⟩ := ho
        exact ⟨c1, xs, c2.mono fun x u h => h.cells.mono fun b hb => ⟨⟨hb.1, .inr hb.2⟩, rfl⟩, c3⟩
    · rcases hy with hy | hy
      · exact yy b hy
      · exact hr.zy b hy.1
    · rcases hb with hb | hb
      · exact yy b hb
      · exact hr.zy b hb.1
    · rcases ok'.zone b hb.1 with h | h
      · exact h1.zone b h
      · exact .inr (eD b h)
    · rw [heH] at hk
      obtain ⟨o, ho, _⟩ := hk
      simp at ho
    · rw [ok'.keep b (fun h => hD (eD b h))]
      exact h1.keep b hD
  · rcases ok'.dom 1 _ b rfl hb with ⟨i, o, hi, hb'⟩ | h
    · rcases own i o b hi hb' with ⟨rfl, rfl⟩ | h
      · have := ok'.rep.apart 0 1 _ _ _ rfl rfl b0 hb
        omega
      · exact h
    · have : W.heap.size ≤ b := h
      omega
theorem pce_map (m : Nat) (l : List Int) (x : Nat) : (pce m l x).map tI = ((l.map tI).drop (x * m)).take m := by
  unfold pce
  rw [List.map_take, List.map_drop]
theorem pce_len (m : Nat) (l : List Int) (x : Nat) : (pce m l x).length = min m (l.length - x * m) := by
  unfold pce
  rw [List.length_take, List.length_drop]
theorem pc_val {e : Env} {W : World} {kn : Nat → Nat → Prop} {ρ : Rho} {Z Y : Nat → Prop} {l : List Int} {a : Option Addr} {c sz : Nat} {xs : List Value} (hr : Rs e.W sz a l.length c xs) (hz : xs ≠ [] → e.Y (adr a).block) (he : Elems (Frz e.W e.Z) sz (l.map tI) xs)
    (hz1 : ∀ b, e.Y b → Y b ∧ W.heap[b]? = e.W.heap[b]?) (hz2 : ∀ b, e.Z b → Z b ∧ W.heap[b]? = e.W.heap[b]?) (hl : l.length ≤ 1048576) (m x : Nat) : Val kn ρ W Z Y (.ln ((pce m l x).map tI)) (pcV (adr a) m l.length x) := by
  have hlm : (l.map tI).length = l.length := List.length_map _
  rw [← hlm] at hr
  obtain ⟨hr1, he1⟩ := resize (s := 1) (fun cs h => by obtain ⟨y, _, rfl⟩ := List.mem_map.1 h; rfl) hr he
  have hE := (he1.drop (x * m)).take m
  rw [← pce_map] at hE
  have hpl := pce_len m l x
  have hne : ∀ {j : Nat} {u : Value}, ((xs.drop (x * m * 1)).take (m * 1))[j]? = some u → xs[x * m + j]? = some u := fun {j u} h => by
    rw [List.getElem?_take] at h
    split at h
    · rw [List.getElem?_drop, Nat.mul_one] at h; exact h
    · cases h
  have hx0 : (xs.drop (x * m * 1)).take (m * 1) ≠ [] → xs ≠ [] := fun h e => h (by rw [e]; simp)
  refine .ln (xs := (xs.drop (x * m * 1)).take (m * 1)) (size := 1) ⟨Nat.le_refl _, by simp only [maxLen]; omega, (fun h => by cases h), ?_, fun j u hj => ?_⟩ (fun h => ?_) (by rw [List.length_map]; exact hpl) (hE.mono fun _ _ h => h.mono hz2)
  · rw [hE.len, List.length_map, hpl]
  · have h1 := hne hj
    have h2 := hr1.cells _ u h1
    have hy := hz (fun e => by rw [e] at h1; simp at h1)
    show W.cell? (((adr a).add (x * m)).add j) = _
    rw [add_add]
    exact (World.cell?_of_block (w := e.W) (w' := W) (a := (adr a).add (x * m + j)) (by rw [add_block]; exact (hz1 _ hy).2)).trans h2
  · show Y (Addr.add _ _).block
    rw [add_block]
    exact (hz1 _ (hz (hx0 h))).1
def sgL_ (m : Nat) (l : List Int) (pre : List Nat) : List (List Tr) := (pre.map (pce m l)).map tSg
theorem sg_start {e : Env} (heH : e.H = []) (heY : ∀ b, e.Y b → b < e.W.heap.size) (heZ : ∀ b, e.Z b → e.Y b) {W : World} (m : Nat) (l : List Int) (hb : Boxed W (e.W.heap.size + 1) 26 (.slice none 0 0)) (hs : W.heap.size = e.W.heap.size + 4) (h3 : W.os = e.W.os ∧ W.tape = e.W.tape ∧ W.output = e.W.output) (hk : ∀ b, b < e.W.heap.size → W.heap[b]? = e.W.heap[b]?) : sgW e (sgL_ m l) [] W := by
  let ρ : Rho := fun i _ => if i = 0 then ⟨some ⟨e.W.heap.size + 1, 0, none⟩, 1, 1⟩ else ⟨none, 0, 1⟩
  have b1 : (Ob.row 0 22 1 (sgL_ m l [])).blk ρ 1 = none := rfl
  have nb : ∀ (i : Nat) (o : Ob) (b : Nat), (sgH 0 0 (sgL_ m l []))[i]? = some o → o.blk ρ i = some b → i = 0 ∧ b = e.W.heap.size + 1 := fun i o b hi hb => by
    rcases sgH_cases hi with ⟨rfl, rfl⟩ | ⟨rfl, rfl⟩
    · cases hb; exact ⟨rfl, rfl⟩
    · rw [b1] at hb; cases hb
  have hlt : ∀ b, (e.Y b ∨ e.Z b) → b < e.W.heap.size := fun b h => h.elim (heY b) fun h => heY b (heZ b h)
  refine ⟨0, ρ, e.Z, ⟨⟨fun i o hi => ?_, fun i j o o' b hi hj h1 h2 => by rw [(nb i o b hi h1).1, (nb j o' b hj h2).1], fun i o b hi h1 => ⟨by have := (nb i o b hi h1).2; omega, fun h => by have := (nb i o b hi h1).2; have := hlt b h; omega⟩, fun b h => .inr h, fun b h => by have := hlt b h; omega⟩,
    fun i o b hi h1 => e.big b (by have := (nb i o b hi h1).2; omega), fun b h => .inl h, fun b h => h, fun b h => .inl h, fun i k h => ?_, h3.1, h3.2.1, h3.2.2, by omega, fun b hD => hk b ?_⟩, rfl, (fun b h => by rw [b1] at h; cases h), by omega, fun b h => .inl (heY b (heZ b h))⟩
  · rcases sgH_cases hi with ⟨rfl, rfl⟩ | ⟨rfl, rfl⟩
    · refine ⟨_, [.slice none 0 0], rfl, hb, ⟨rfl, fun j x u hj hu => ?_⟩, fun u hu => by rw [List.mem_singleton.1 hu]; rfl⟩
      have := get_lt hj
      obtain rfl : j = 0 := by simp at this; omega
      cases hj; cases hu
      exact Val.sl (ρ := ρ) (i := 1) (k := 0) (n := 0) ⟨_, rfl, by simp [Ob.lim]⟩ (Nat.zero_le _) (fun _ => rfl)
    · exact ⟨rfl, [], .nil, .inl ⟨rfl, rfl, rfl⟩⟩
  · rw [heH] at h
    obtain ⟨o, ho, _⟩ := h
    simp at ho
  · rcases Nat.lt_or_ge b e.W.heap.size with h | h
    · exact h
    · exact absurd (e.big b h) hD
theorem fifoSegs_c (cap size : Int) (l : List Int) (dn : List (List Tr)) (m : Nat) (hm : max size 1 = (m : Int)) (hs : sI size) (hl : l.length ≤ 1048576) :
    Cd Try.prog 5 [.agg [i64 cap, .ln (l.map tI), .ln dn], i64 size] (.sl 0 0 (sgR m l l.length).length) [.row 0 22 1 ((sgR m l l.length).map tSg)] := by
  have hm0 : 0 < m := by omega
  have hm2 : m ≤ 9223372036854775807 := by unfold sI at hs; omega
  intro e vs heH hrep hdom hargs
  obtain ⟨v0, v1, rfl⟩ : ∃ v0 v1, vs = [v0, v1] := by
    match vs, hargs.len with
    | [v0, v1], _ => exact ⟨v0, v1, rfl⟩
  have g0 := hargs.at_ 0 _ v0 rfl rfl
  have g1 := hargs.at_ 1 _ v1 rfl rfl
  cases g1 with
  | t h => cases h with
  | v h =>
  cases g0 with
  | @agg _ us e1 ho hu =>
  obtain ⟨u0, u1, u2, rfl⟩ : ∃ u0 u1 u2, us = [u0, u1, u2] := by
    match us, e1 with
    | [u0, u1, u2], _ => exact ⟨u0, u1, u2, rfl⟩
  have k0 := hu 0 _ u0 rfl rfl
  have k1 := hu 1 _ u1 rfl rfl
  have k2 := ho u2 (by simp)
  cases k0 with
  | t h => cases h with
  | v h0 =>
  cases k1 with
  | @ln _ a n c sz xs hr hz hn he =>
  rw [List.length_map] at hn
  subst hn
  have hcap := hr.cap
  have hca : a = none → l.length = 0 := fun h => (hr.none h).1
  refine (callsIn_wide (n := 11)).1 ?_
  refine callsIn_of_wp_marks Try.func5 rfl trivial ?_ rfl
  simp only [Try.ntmps5, List.size_toArray, List.length_cons, List.length_nil, Nat.reduceAdd, Nat.reduceSub, Array.replicate_succ, Array.replicate_zero, List.push_toArray, List.append_toArray, List.nil_append, List.cons_append]
  have hck : ∀ v : Int, v = m → ∀ w, CallsIn Fence.wide 10 Try.prog 16 #[.slice a l.length c, .int .i64 v] w fun e w' => e = .returned (.func (.func 26) #[] #[.pointer (some ⟨w.heap.size, 0, none⟩), .pointer (some ⟨w.heap.size + 1, 0, none⟩)]) ∧ w' = (w.alloc (.cells #[.slice a l.length c] 22)).alloc (.cells #[.int .i64 m] 3) := by
    rintro _ rfl w
    exact chunk_in a l.length c m hm0 w
  have heY : ∀ b, e.Y b → b < e.W.heap.size := hrep.ylt
  have heZ : ∀ b, e.Z b → e.Y b := hrep.zy
  have heY : ∀ b, e.Y b → b < e.W.heap.size := hrep.ylt
  have heZ : ∀ b, e.Z b → e.Y b := hrep.zy
  have heY : ∀ b, e.Y b → b < e.W.heap.size := hrep.ylt
  have heZ : ∀ b, e.Z b → e.Y b := hrep.zy
  have heY : ∀ b, e.Y b → b < e.W.heap.size := hrep.ylt
  have heZ : ∀ b, e.Z b → e.Y b := hrep.zy
  have heY : ∀ b, e.Y b → b < e.W.heap.size := hrep.ylt
  have heZ : ∀ b, e.Z b → e.Y b := hrep.zy
  by_cases hsz : size < 1
  · gi_wp2_with (refine ⟨trivial, ?_⟩; gi_at_call 16; refine (hck _ (by omega) _).mono ?_; rintro e' w' ⟨rfl, rfl⟩)
    have bO := ((Boxed.new (e.W.alloc (.cells #[.int .i64 cap, .slice a l.length c, u2] 25)) 26 (.slice none 0 0)).alloc (.cells #[.slice a l.length c] 22)).alloc (.cells #[.int .i64 m] 3)
    have bS := (Boxed.new ((e.W.alloc (.cells #[.int .i64 cap, .slice a l.length c, u2] 25)).alloc (.cells #[.slice none 0 0] 26)) 22 (.slice a l.length c)).alloc (.cells #[.int .i64 m] 3)
    have bN := Boxed.new (((e.W.alloc (.cells #[.int .i64 cap, .slice a l.length c, u2] 25)).alloc (.cells #[.slice none 0 0] 26)).alloc (.cells #[.slice a l.length c] 22)) 3 (.int .i64 m)
    have hs0 : ((((e.W.alloc (.cells #[.int .i64 cap, .slice a l.length c, u2] 25)).alloc (.cells #[.slice none 0 0] 26)).alloc (.cells #[.slice a l.length c] 22)).alloc (.cells #[.int .i64 m] 3)).heap.size = e.W.heap.size + 4 := by simp
    have hk0 : ∀ b, b < e.W.heap.size → ((((e.W.alloc (.cells #[.int .i64 cap, .slice a l.length c, u2] 25)).alloc (.cells #[.slice none 0 0] 26)).alloc (.cells #[.slice a l.length c] 22)).alloc (.cells #[.int .i64 m] 3)).heap[b]? = e.W.heap[b]? := fun b hb => by
      rw [Below.heap_alloc _ _ _ (by simp; omega), Below.heap_alloc _ _ _ (by simp; omega), Below.heap_alloc _ _ _ (by simp; omega), Below.heap_alloc _ _ _ hb]
    simp only [World.size_alloc] at bO bS bN
    have h0S := sg_start heH heY heZ m l bO hs0 ⟨rfl, rfl, rfl⟩ hk0
    generalize hW0 : (((e.W.alloc (.cells #[.int .i64 cap, .slice a l.length c, u2] 25)).alloc (.cells #[.slice none 0 0] 26)).alloc (.cells #[.slice a l.length c] 22)).alloc (.cells #[.int .i64 m] 3) = W0 at *
    clear hW0
    refine wpIn_rangeFunc_ownG rfl (by omega) (gf := 26) (lb := #[.pointer (some ⟨e.W.heap.size + 1 + 1, 0, none⟩), .pointer (some ⟨e.W.heap.size + 1 + 1 + 1, 0, none⟩)]) rfl trivial (enters_of Try.func26 (by kernel_rfl) rfl)
      (chunk_stops a l.length c m hm0 hm2 hl hcap hca (e.W.heap.size + 1 + 1) (e.W.heap.size + 1 + 1 + 1) W0 (by omega) (by omega) bS.cell bN.cell) (fun h k => ⟨k.1.trans h.1, k.2.trans h.2⟩) (fun W b o o' hb ho _ _ => ⟨World.putObj_heap_other (by omega), World.putObj_heap_other (by omega)⟩) (Below.refl _ _) (fun _ => rfl)
      (sgW e (sgL_ m l)) (fun _ _ _ => False) (by rw [hs0]; exact sgW_own e _ heY) (fun _ _ _ _ _ hs _ _ => hs) h0S
      (fun x => { tmps := #[.agg #[.int .i64 cap, .slice a l.length c, u2], .int .i64 size, .pointer (some ⟨e.W.heap.size, 0, none⟩), undef, .slice none 0 0, .pointer (some ⟨e.W.heap.size + 1, 0, none⟩), pcV (adr a) m l.length x, .pointer (some ⟨e.W.heap.size, 1, none⟩), .slice a l.length c, .int .i64 size, .int .i64 1, .func (.func 26) #[] #[.pointer (some ⟨e.W.heap.size + 1 + 1, 0, none⟩), .pointer (some ⟨e.W.heap.size + 1 + 1 + 1, 0, none⟩)], pcV (adr a) m l.length x, undef, undef, undef, undef, undef, undef], defers := [] }) ?assign ?body ?done ?stop
    case assign =>
      intro lp x W K hK
      gi_wp2
      exact hK
    case body =>
      rintro lp pre x W ⟨k, ρ, Z, h1, h2, h3, h4, h5⟩ hlt
      have hpl := pcn_le (n := l.length) hm0
      have hyk : ∀ b, e.Y b → W.heap[b]? = e.W.heap[b]? := fun b hb => h1.keep b (e.yd b hb)
      have hv : Val (Kn (sgH k pre.length (sgL_ m l pre))) ρ W Z (fun b => e.Y b ∨ Z b) (.ln ((pce m l x).map tI)) (pcV (adr a) m l.length x) := pc_val hr hz he (fun b hb => ⟨.inl hb, hyk b hb⟩) (fun b hb => ⟨h1.z0 b hb, hyk b (heZ b hb)⟩) hl m x
      have hpx : (pce m l x).length ≤ l.length := by rw [pce_len]; omega
      have cl : Cd Try.prog 17 [.ln ((pce m l x).map tI)] (.t (.lst ((pce m l x).map tI))) [] := by
        have h0 := clone_I (pce m l x) (by omega)
        have h0' := Cd.frz1 h0 0 rfl (.all (List.length_map _)) rfl
        exact Cd.drop h0' rfl
      have hL : sgL_ m l (pre ++ [x]) = (pre.map (pce m l) ++ [pce m l x]).map tSg := by unfold sgL_; rw [List.map_append]; rfl
      have hR : Rep (rdE W (sgH k pre.length (sgL_ m l pre)) ρ Z _ h1.rep) ⟨⟨19, 2⟩, pu (pu (fun _ => .any) 5 (.ptr 0 0)) 6 (.ln ((pce m l x).map tI)), sgH k pre.length (sgL_ m l pre)⟩ { tmps := #[.agg #[.int .i64 cap, .slice a l.length c, u2], .int .i64 size, .pointer (some ⟨e.W.heap.size, 0, none⟩), undef, .slice none 0 0, .pointer (some ⟨e.W.heap.size + 1, 0, none⟩), pcV (adr a) m l.length x, .pointer (some ⟨e.W.heap.size, 1, none⟩), .slice a l.length c, .int .i64 size, .int .i64 1, .func (.func 26) #[] #[.pointer (some ⟨e.W.heap.size + 1 + 1, 0, none⟩), .pointer (some ⟨e.W.heap.size + 1 + 1 + 1, 0, none⟩)], pcV (adr a) m l.length x, undef, undef, undef, undef, undef, undef], defers := [] } W := by
        refine ⟨ρ, Z, _, ⟨rdE_ok h1.rep, rfl, rfl, Nat.le_refl _, fun t v ht => ?_⟩⟩
        by_cases e6 : t = 6
        · subst e6; cases ht; exact hv
        by_cases e5 : t = 5
        · subst e5; cases ht
          exact Val.ptr ⟨_, rfl, by simp [Ob.lim]⟩ h2
        have e1 : (pu (pu (fun _ => AV.any) 5 (.ptr 0 0)) 6 (.ln ((pce m l x).map tI))) t = .any := by
          simp only [pu, beq_ne e6, beq_ne e5, cond_false]
        show Val _ _ _ _ _ ((pu (pu (fun _ => AV.any) 5 (.ptr 0 0)) 6 (.ln ((pce m l x).map tI))) t) v
        rw [e1]; exact .any _
      refine wpIn_block ?_
      refine wpIn_mono (draw_in (Q := fun ex T h => ex = .normal ∧ ∃ T', Wk ⟨19, 2⟩ T h T' (sgH (k + 1) (pre.length + 1) (sgL_ m l (pre ++ [x])))) lp _ mixed 2 qR (heap := [.box 26 [.sl 1 k pre.length], .row k 22 1 (sgL_ m l pre)]) (fun T h hq => by cases hq.1) (fun o ho c => ?_) ?rg hR) ?_
      case rg =>
        rw [hL]
        unfold sgH sgL_
        have hyl : (pre.map (pce m l)).length = pre.length := List.length_map _
        generalize pre.map (pce m l) = ys at hyl ⊢
        repeat' (first | refine uA ?_ | ((with_reducible refine kRG ?_); (first | (refine kR 554 rfl ?_; first | (first | refine uQ (cl) 0 ?_ | refine uQ (cl) 1 ?_ | refine uQ (cl) 2 ?_ | refine uQ (cl) 3 ?_ | refine uQ (cl) 4 ?_ | refine uQ (cl) 5 ?_ | refine uQ (cl) 6 ?_ | refine uQ (cl) 7 ?_ | refine uQ (cl) 8 ?_ | refine uQ (cl) 9 ?_ | refine uQ (cl) 10 ?_ | refine uQ (cl) 11 ?_ | refine uQ (cl) 12 ?_ | refine uQ (cl) 13 ?_)) | (refine kR 847 rfl ?_; first | refine R_lit rfl rfl 26 1 _ rfl ud26 inf22 (.cons rfl .nil) (els := [[_]]) rfl (by first | exact (rfl : _ = List.map tSg [pce m l x]) | exact qN) rfl (Nat.ne_of_beq_eq_false rfl) (Nat.le_of_ble_eq_true rfl) (Nat.le_of_ble_eq_true rfl) qh qN ?_) | (refine kR 12 rfl ?_; first | refine R_append rfl rfl _ _ 26 rfl ud26 inf22 rfl rfl rfl (by first | exact Nat.le_refl _ | (simp <;> fail) | (simp; omega)) (by first | exact .nl | exact .all rfl (by first | rfl | (simp <;> fail) | (simp; omega)) | exact .lst (by first | exact each_map (fun _ => rfl) | assumption | (simp <;> fail) | fail) | exact .ln (by first | exact each_map (fun _ => rfl) | assumption | (simp <;> fail) | fail) | exact .sl rfl (by first | exact Nat.le_refl _ | (simp <;> fail) | (simp; omega)) | exact .sub rfl (by first | exact Nat.le_refl _ | (simp <;> fail) | (simp; omega))) qB qB (by first | exact app_map (by first | rfl | omega | (simp <;> fail) | fail) | exact app_one (f := tSg) (x := pce m l x) (by first | rfl | omega | (simp <;> fail) | fail) | exact qN) qN qS ?_ | refine R_append_nl rfl rfl _ _ 26 rfl ud26 inf22 rfl rfl (by first | exact .nl | exact .all rfl (by first | rfl | (simp <;> fail) | (simp; omega)) | exact .lst (by first | exact each_map (fun _ => rfl) | assumption | (simp <;> fail) | fail) | exact .ln (by first | exact each_map (fun _ => rfl) | assumption | (simp <;> fail) | fail) | exact .sl rfl (by first | exact Nat.le_refl _ | (simp <;> fail) | (simp; omega)) | exact .sub rfl (by first | exact Nat.le_refl _ | (simp <;> fail) | (simp; omega))) qB qB (by first | exact (rfl : _ = List.map tSg [pce m l x]) | exact qN) qh qN qS ?_) | (refine kR 835 rfl ?_; first | refine R_store_rp rfl rfl 26 _ _ rfl inf26 (by decide) rfl rfl (by first | exact map_get (by assumption) | assumption) rfl rfl rfl (Nat.le_of_ble_eq_true rfl) (by first | exact map_set (f := tSg) (x := pce m l x) | exact qN) qN ?_) | refine uR ?_)) | refine uC ?_ | refine kcp rfl (fun hc => ?_) (fun hc => ?_) | refine kcn rfl (fun hc => ?_) (fun hc => ?_) | refine kcb rfl (fun hc => ?_) (fun hc => ?_) | refine kcc rfl (fun hc => ?_) (fun hc => ?_) | refine AW.drawU (id := 4) mixed 2 qR ?_ | fail)
        exact ⟨rfl, fun _ => .any, by exact Wk.cq 2⟩
      · simp only [List.mem_cons, List.not_mem_nil, or_false] at ho
        rcases ho with rfl | rfl | rfl | rfl | rfl | rfl
        all_goals (intro h; cases h)
      · rintro ex a' W' ⟨T1, h1', ⟨rfl, T', hwk⟩, hrep'⟩
        have hst := sg_step heH (fun b hb => heY b (heZ b hb)) h1 h2 h3 h4 (hwk _ _ _ hrep')
        refine ⟨by rw [hs0]; exact hst.1, hst.2.1, k + 1, ?_⟩
        have := hst.2.2
        rw [List.length_append, List.length_singleton]
        exact this
    case done =>
      rintro D ys W hD rfl hI hK
      have hD2 : e.W.heap.size + 4 ≤ D := by rw [← hs0]; exact hD
      obtain ⟨k, ρ, Z, h1, h2, h3, h4, h5⟩ := (sgW_own e (sgL_ m l) heY).putObj (.deferred none) hI hD2 hK rfl
      obtain ⟨b, us, q1, q2, q3, q4⟩ := h1.rep.obs 0 _ rfl
      rw [h2] at q1
      cases q1
      obtain ⟨u, rfl⟩ := List.length_eq_one_iff.1 (show us.length = 1 from q3.len.symm)
      have hu' := q3.at_ 0 _ u rfl rfl
      have hbx : Boxed W (e.W.heap.size + 1) 26 u := (World.putObj_heap_other (by omega)).symm.trans q2
      have hc := hbx.cell
      have hSR : sgL_ m l (List.range (pcn m l.length)) = (sgR m l l.length).map tSg := by unfold sgL_; rw [sgR_pce hm0]
      have hSn : (List.range (pcn m l.length)).length = (sgR m l l.length).length := by rw [sgR_pce hm0, List.length_map]
      obtain ⟨ρ', f1, f2⟩ := h1.fin (h := 0) (K := [1]) (by rw [heH]; exact Nat.le_refl _) (by simp) (fun _ _ => Nat.zero_le _) .nil (.cons rfl (.rset rfl) .nil)
      have f3 := f2 _ _ u (.new (j := 0) rfl rfl rfl rfl) hu'
      rw [hSn] at f3
      rw [hSR] at f1 f3
      gi_wp2
      refine ⟨by simp, .inl ⟨_, _, rfl, run_takeDeferred hK, ?_⟩⟩
      exact ⟨_, results_tmp rfl _ _ _, u, _, _, ρ', Z, _, rfl, ⟨rfl, rfl⟩, f1, f3⟩
    case stop =>
      rintro D c' pre W _ _ h _
      exact h.elim
  · gi_wp2_with (refine ⟨trivial, ?_⟩; gi_at_call 16; refine (hck _ (by omega) _).mono ?_; rintro e' w' ⟨rfl, rfl⟩)
    have bO := ((Boxed.new (e.W.alloc (.cells #[.int .i64 cap, .slice a l.length c, u2] 25)) 26 (.slice none 0 0)).alloc (.cells #[.slice a l.length c] 22)).alloc (.cells #[.int .i64 m] 3)
    have bS := (Boxed.new ((e.W.alloc (.cells #[.int .i64 cap, .slice a l.length c, u2] 25)).alloc (.cells #[.slice none 0 0] 26)) 22 (.slice a l.length c)).alloc (.cells #[.int .i64 m] 3)
    have bN := Boxed.new (((e.W.alloc (.cells #[.int .i64 cap, .slice a l.length c, u2] 25)).alloc (.cells #[.slice none 0 0] 26)).alloc (.cells #[.slice a l.length c] 22)) 3 (.int .i64 m)
    have hs0 : ((((e.W.alloc (.cells #[.int .i64 cap, .slice a l.length c, u2] 25)).alloc (.cells #[.slice none 0 0] 26)).alloc (.cells #[.slice a l.length c] 22)).alloc (.cells #[.int .i64 m] 3)).heap.size = e.W.heap.size + 4 := by simp
    have hk0 : ∀ b, b < e.W.heap.size → ((((e.W.alloc (.cells #[.int .i64 cap, .slice a l.length c, u2] 25)).alloc (.cells #[.slice none 0 0] 26)).alloc (.cells #[.slice a l.length c] 22)).alloc (.cells #[.int .i64 m] 3)).heap[b]? = e.W.heap[b]? := fun b hb => by
      rw [Below.heap_alloc _ _ _ (by simp; omega), Below.heap_alloc _ _ _ (by simp; omega), Below.heap_alloc _ _ _ (by simp; omega), Below.heap_alloc _ _ _ hb]
    simp only [World.size_alloc] at bO bS bN
    have h0S := sg_start heH heY heZ m l bO hs0 ⟨rfl, rfl, rfl⟩ hk0
    generalize hW0 : (((e.W.alloc (.cells #[.int .i64 cap, .slice a l.length c, u2] 25)).alloc (.cells #[.slice none 0 0] 26)).alloc (.cells #[.slice a l.length c] 22)).alloc (.cells #[.int .i64 m] 3) = W0 at *
    clear hW0
    refine wpIn_rangeFunc_ownG rfl (by omega) (gf := 26) (lb := #[.pointer (some ⟨e.W.heap.size + 1 + 1, 0, none⟩), .pointer (some ⟨e.W.heap.size + 1 + 1 + 1, 0, none⟩)]) rfl trivial (enters_of Try.func26 (by kernel_rfl) rfl)
      (chunk_stops a l.length c m hm0 hm2 hl hcap hca (e.W.heap.size + 1 + 1) (e.W.heap.size + 1 + 1 + 1) W0 (by omega) (by omega) bS.cell bN.cell) (fun h k => ⟨k.1.trans h.1, k.2.trans h.2⟩) (fun W b o o' hb ho _ _ => ⟨World.putObj_heap_other (by omega), World.putObj_heap_other (by omega)⟩) (Below.refl _ _) (fun _ => rfl)
      (sgW e (sgL_ m l)) (fun _ _ _ => False) (by rw [hs0]; exact sgW_own e _ heY) (fun _ _ _ _ _ hs _ _ => hs) h0S
      (fun x => { tmps := #[.agg #[.int .i64 cap, .slice a l.length c, u2], .int .i64 size, .pointer (some ⟨e.W.heap.size, 0, none⟩), undef, .slice none 0 0, .pointer (some ⟨e.W.heap.size + 1, 0, none⟩), pcV (adr a) m l.length x, .pointer (some ⟨e.W.heap.size, 1, none⟩), .slice a l.length c, .int .i64 size, .int .i64 size, .func (.func 26) #[] #[.pointer (some ⟨e.W.heap.size + 1 + 1, 0, none⟩), .pointer (some ⟨e.W.heap.size + 1 + 1 + 1, 0, none⟩)], pcV (adr a) m l.length x, undef, undef, undef, undef, undef, undef], defers := [] }) ?assign ?body ?done ?stop
    case assign =>
      intro lp x W K hK
      gi_wp2
      exact hK
    case body =>
      rintro lp pre x W ⟨k, ρ, Z, h1, h2, h3, h4, h5⟩ hlt
      have hpl := pcn_le (n := l.length) hm0
      have hyk : ∀ b, e.Y b → W.heap[b]? = e.W.heap[b]? := fun b hb => h1.keep b (e.yd b hb)
      have hv : Val (Kn (sgH k pre.length (sgL_ m l pre))) ρ W Z (fun b => e.Y b ∨ Z b) (.ln ((pce m l x).map tI)) (pcV (adr a) m l.length x) := pc_val hr hz he (fun b hb => ⟨.inl hb, hyk b hb⟩) (fun b hb => ⟨h1.z0 b hb, hyk b (heZ b hb)⟩) hl m x
      have hpx : (pce m l x).length ≤ l.length := by rw [pce_len]; omega
      have cl : Cd Try.prog 17 [.ln ((pce m l x).map tI)] (.t (.lst ((pce m l x).map tI))) [] := by
        have h0 := clone_I (pce m l x) (by omega)
        have h0' := Cd.frz1 h0 0 rfl (.all (List.length_map _)) rfl
        exact Cd.drop h0' rfl
      have hL : sgL_ m l (pre ++ [x]) = (pre.map (pce m l) ++ [pce m l x]).map tSg := by unfold sgL_; rw [List.map_append]; rfl
      have hR : Rep (rdE W (sgH k pre.length (sgL_ m l pre)) ρ Z _ h1.rep) ⟨⟨19, 2⟩, pu (pu (fun _ => .any) 5 (.ptr 0 0)) 6 (.ln ((pce m l x).map tI)), sgH k pre.length (sgL_ m l pre)⟩ { tmps := #[.agg #[.int .i64 cap, .slice a l.length c, u2], .int .i64 size, .pointer (some ⟨e.W.heap.size, 0, none⟩), undef, .slice none 0 0, .pointer (some ⟨e.W.heap.size + 1, 0, none⟩), pcV (adr a) m l.length x, .pointer (some ⟨e.W.heap.size, 1, none⟩), .slice a l.length c, .int .i64 size, .int .i64 size, .func (.func 26) #[] #[.pointer (some ⟨e.W.heap.size + 1 + 1, 0, none⟩), .pointer (some ⟨e.W.heap.size + 1 + 1 + 1, 0, none⟩)], pcV (adr a) m l.length x, undef, undef, undef, undef, undef, undef], defers := [] } W := by
        refine ⟨ρ, Z, _, ⟨rdE_ok h1.rep, rfl, rfl, Nat.le_refl _, fun t v ht => ?_⟩⟩
        by_cases e6 : t = 6
        · subst e6; cases ht; exact hv
        by_cases e5 : t = 5
        · subst e5; cases ht
          exact Val.ptr ⟨_, rfl, by simp [Ob.lim]⟩ h2
        have e1 : (pu (pu (fun _ => AV.any) 5 (.ptr 0 0)) 6 (.ln ((pce m l x).map tI))) t = .any := by
          simp only [pu, beq_ne e6, beq_ne e5, cond_false]
        show Val _ _ _ _ _ ((pu (pu (fun _ => AV.any) 5 (.ptr 0 0)) 6 (.ln ((pce m l x).map tI))) t) v
        rw [e1]; exact .any _
      refine wpIn_block ?_
      refine wpIn_mono (draw_in (Q := fun ex T h => ex = .normal ∧ ∃ T', Wk ⟨19, 2⟩ T h T' (sgH (k + 1) (pre.length + 1) (sgL_ m l (pre ++ [x])))) lp _ mixed 2 qR (heap := [.box 26 [.sl 1 k pre.length], .row k 22 1 (sgL_ m l pre)]) (fun T h hq => by cases hq.1) (fun o ho c => ?_) ?rg hR) ?_
      case rg =>
        rw [hL]
        unfold sgH sgL_
        have hyl : (pre.map (pce m l)).length = pre.length := List.length_map _
        generalize pre.map (pce m l) = ys at hyl ⊢
        repeat' (first | refine uA ?_ | ((with_reducible refine kRG ?_); (first | (refine kR 554 rfl ?_; first | (first | refine uQ (cl) 0 ?_ | refine uQ (cl) 1 ?_ | refine uQ (cl) 2 ?_ | refine uQ (cl) 3 ?_ | refine uQ (cl) 4 ?_ | refine uQ (cl) 5 ?_ | refine uQ (cl) 6 ?_ | refine uQ (cl) 7 ?_ | refine uQ (cl) 8 ?_ | refine uQ (cl) 9 ?_ | refine uQ (cl) 10 ?_ | refine uQ (cl) 11 ?_ | refine uQ (cl) 12 ?_ | refine uQ (cl) 13 ?_)) | (refine kR 847 rfl ?_; first | refine R_lit rfl rfl 26 1 _ rfl ud26 inf22 (.cons rfl .nil) (els := [[_]]) rfl (by first | exact (rfl : _ = List.map tSg [pce m l x]) | exact qN) rfl (Nat.ne_of_beq_eq_false rfl) (Nat.le_of_ble_eq_true rfl) (Nat.le_of_ble_eq_true rfl) qh qN ?_) | (refine kR 12 rfl ?_; first | refine R_append rfl rfl _ _ 26 rfl ud26 inf22 rfl rfl rfl (by first | exact Nat.le_refl _ | (simp <;> fail) | (simp; omega)) (by first | exact .nl | exact .all rfl (by first | rfl | (simp <;> fail) | (simp; omega)) | exact .lst (by first | exact each_map (fun _ => rfl) | assumption | (simp <;> fail) | fail) | exact .ln (by first | exact each_map (fun _ => rfl) | assumption | (simp <;> fail) | fail) | exact .sl rfl (by first | exact Nat.le_refl _ | (simp <;> fail) | (simp; omega)) | exact .sub rfl (by first | exact Nat.le_refl _ | (simp <;> fail) | (simp; omega))) qB qB (by first | exact app_map (by first | rfl | omega | (simp <;> fail) | fail) | exact app_one (f := tSg) (x := pce m l x) (by first | rfl | omega | (simp <;> fail) | fail) | exact qN) qN qS ?_ | refine R_append_nl rfl rfl _ _ 26 rfl ud26 inf22 rfl rfl (by first | exact .nl | exact .all rfl (by first | rfl | (simp <;> fail) | (simp; omega)) | exact .lst (by first | exact each_map (fun _ => rfl) | assumption | (simp <;> fail) | fail) | exact .ln (by first | exact each_map (fun _ => rfl) | assumption | (simp <;> fail) | fail) | exact .sl rfl (by first | exact Nat.le_refl _ | (simp <;> fail) | (simp; omega)) | exact .sub rfl (by first | exact Nat.le_refl _ | (simp <;> fail) | (simp; omega))) qB qB (by first | exact (rfl : _ = List.map tSg [pce m l x]) | exact qN) qh qN qS ?_) | (refine kR 835 rfl ?_; first | refine R_store_rp rfl rfl 26 _ _ rfl inf26 (by decide) rfl rfl (by first | exact map_get (by assumption) | assumption) rfl rfl rfl (Nat.le_of_ble_eq_true rfl) (by first | exact map_set (f := tSg) (x := pce m l x) | exact qN) qN ?_) | refine uR ?_)) | refine uC ?_ | refine kcp rfl (fun hc => ?_) (fun hc => ?_) | refine kcn rfl (fun hc => ?_) (fun hc => ?_) | refine kcb rfl (fun hc => ?_) (fun hc => ?_) | refine kcc rfl (fun hc => ?_) (fun hc => ?_) | refine AW.drawU (id := 4) mixed 2 qR ?_ | fail)
        exact ⟨rfl, fun _ => .any, by exact Wk.cq 2⟩
      · simp only [List.mem_cons, List.not_mem_nil, or_false] at ho
        rcases ho with rfl | rfl | rfl | rfl | rfl | rfl
        all_goals (intro h; cases h)
      · rintro ex a' W' ⟨T1, h1', ⟨rfl, T', hwk⟩, hrep'⟩
        have hst := sg_step heH (fun b hb => heY b (heZ b hb)) h1 h2 h3 h4 (hwk _ _ _ hrep')
        refine ⟨by rw [hs0]; exact hst.1, hst.2.1, k + 1, ?_⟩
        have := hst.2.2
        rw [List.length_append, List.length_singleton]
        exact this
    case done =>
      rintro D ys W hD rfl hI hK
      have hD2 : e.W.heap.size + 4 ≤ D := by rw [← hs0]; exact hD
      obtain ⟨k, ρ, Z, h1, h2, h3, h4, h5⟩ := (sgW_own e (sgL_ m l) heY).putObj (.deferred none) hI hD2 hK rfl
      obtain ⟨b, us, q1, q2, q3, q4⟩ := h1.rep.obs 0 _ rfl
      rw [h2] at q1
      cases q1
      obtain ⟨u, rfl⟩ := List.length_eq_one_iff.1 (show us.length = 1 from q3.len.symm)
      have hu' := q3.at_ 0 _ u rfl rfl
      have hbx : Boxed W (e.W.heap.size + 1) 26 u := (World.putObj_heap_other (by omega)).symm.trans q2
      have hc := hbx.cell
      have hSR : sgL_ m l (List.range (pcn m l.length)) = (sgR m l l.length).map tSg := by unfold sgL_; rw [sgR_pce hm0]
      have hSn : (List.range (pcn m l.length)).length = (sgR m l l.length).length := by rw [sgR_pce hm0, List.length_map]
      obtain ⟨ρ', f1, f2⟩ := h1.fin (h := 0) (K := [1]) (by rw [heH]; exact Nat.le_refl _) (by simp) (fun _ _ => Nat.zero_le _) .nil (.cons rfl (.rset rfl) .nil)
      have f3 := f2 _ _ u (.new (j := 0) rfl rfl rfl rfl) hu'
      rw [hSn] at f3
      rw [hSR] at f1 f3
      gi_wp2
      refine ⟨by simp, .inl ⟨_, _, rfl, run_takeDeferred hK, ?_⟩⟩
      exact ⟨_, results_tmp rfl _ _ _, u, _, _, ρ', Z, _, rfl, ⟨rfl, rfl⟩, f1, f3⟩
    case stop =>
      rintro D c' pre W _ _ h _
      exact h.elim
end Go.Proofs.Ytmljglphegeilaa


namespace Go.Proofs.Ytmljglphegeilaa
set_option linter.unusedVariables false
set_option linter.unusedSimpArgs false
set_option linter.unnecessarySimpa false
open Go.RowKit
set_option maxHeartbeats 32000000
attribute [local irreducible] AL AW RG Fin C Cd Cio thenQ blockQ retQ
set_option maxRecDepth 100000
set_option maxHeartbeats 8000000
theorem fifoSegments_c (cap : Int) (l : List Int) (dn : List Rst) (cap' : Int) (l' : List Int) (dn' : List Rst) (size : Int) (hs : sI size) (hl : l.length ≤ 1048576) (hd : dn.length ≤ 1048576) :
    Cd Try.prog 3 [.agg [i64 cap, .ln (l.map tI), .ln (dn.map tR)], .agg [i64 cap', .ln (l'.map tI), .ln (dn'.map tR)], i64 size] (bo true) [] := by
  obtain ⟨m, hm⟩ : ∃ m : Nat, max size 1 = m := ⟨(max size 1).toNat, by omega⟩
  have cA0 := fifoSegs_c cap size l (dn.map tR) m hm hs hl
  have cB0 := refSegs_c l size m (by omega) hl
  have hR := sgR_all (m := m) (Nat.le_refl l.length)
  rw [List.take_length] at hR
  have hRl := sgR_len (m := m) (Nat.le_refl l.length)
  generalize sgR m l l.length = R at *
  have cA : Cd Try.prog 5 [.agg [i64 cap, .ln (l.map tI), .ln (dn.map tR)], i64 size] (.t (.lst (R.map tSg))) [] := Cd.drop (Cd.frz1 cA0 0 rfl (.all (List.length_map _)) rfl) rfl
  have cB : Cd Try.prog 6 [.ln (l.map tI), i64 size] (.t (.lst (R.map tSg))) [] := Cd.drop (Cd.frz1 cB0 0 rfl (.all (List.length_map _)) rfl) rfl
  have hb : ∀ i r, R[i]? = some r → (R.take (i + 1)).flatten = (R.take i).flatten ++ r ∧ (R.take i).flatten.length + r.length ≤ l.length := fun i r hr => by
    have e : (R.take (i + 1)).flatten = (R.take i).flatten ++ r := by rw [List.take_add_one, hr]; simp
    refine ⟨e, ?_⟩
    have := congrArg List.length (congrArg List.flatten (List.take_append_drop (i + 1) R))
    rw [List.flatten_append, List.length_append, e, hR, List.length_append] at this
    omega
  have hE : (R.take R.length).flatten = l := by rw [List.take_length]; exact hR
  have cS1 := fifoSame_c cap cap' l l' dn dn' (by omega) (by omega)
  have cS2 := fifoSame_c cap cap l l dn dn (by omega) (by omega)
  rw [decide_eq_true ⟨rfl, rfl, rfl⟩] at cS2
  have cC := cells_c cap cap' l l' dn dn' (by omega) (by omega)
  have cZ := ints_c l l (by omega)
  rw [decide_eq_true rfl] at cZ
  have aw := awake08_c
  have hRm : (R.map tSg).length = R.length := List.length_map _
  generalize decide (cap = cap' ∧ l = l' ∧ dn = dn') = bb at cS1 cC
  cases bb
  all_goals
    refine Cd.enter' Try.func3 rfl Try.ntmps3 rfl ?_
    repeat' (first | ((with_reducible refine kAL ?_); (first | (refine kL 12 rfl ?_; first | refine A_append_nlsub rfl rfl _ _ 22 rfl ud22 inf3 rfl rfl rfl rfl (by (try simp only [List.length_map, List.length_append, List.length_cons, List.length_nil]); omega) qB qB List.map_drop.symm (.push qL qN) ?_) | refine uA ?_ | refine uS 64 (fun hb => ?_) (fun hb => ?_))) | ((with_reducible refine kRG ?_); (first | (refine kR 170 rfl ?_; first | (first | refine uQ (cA) 0 ?_ | refine uQ (cA) 1 ?_ | refine uQ (cA) 2 ?_ | refine uQ (cA) 3 ?_ | refine uQ (cA) 4 ?_ | refine uQ (cA) 5 ?_ | refine uQ (cA) 6 ?_ | refine uQ (cA) 7 ?_ | refine uQ (cA) 8 ?_ | refine uQ (cA) 9 ?_ | refine uQ (cA) 10 ?_ | refine uQ (cA) 11 ?_ | refine uQ (cA) 12 ?_ | refine uQ (cA) 13 ?_)) | (refine kR 202 rfl ?_; first | (first | refine uQ (cB) 0 ?_ | refine uQ (cB) 1 ?_ | refine uQ (cB) 2 ?_ | refine uQ (cB) 3 ?_ | refine uQ (cB) 4 ?_ | refine uQ (cB) 5 ?_ | refine uQ (cB) 6 ?_ | refine uQ (cB) 7 ?_ | refine uQ (cB) 8 ?_ | refine uQ (cB) 9 ?_ | refine uQ (cB) 10 ?_ | refine uQ (cB) 11 ?_ | refine uQ (cB) 12 ?_ | refine uQ (cB) 13 ?_)) | refine uR ?_)) | refine uC ?_ | refine kcp rfl (fun hc => ?_) (fun hc => ?_) | refine kcn rfl (fun hc => ?_) (fun hc => ?_) | refine kcb rfl (fun hc => ?_) (fun hc => ?_) | refine kcc rfl (fun hc => ?_) (fun hc => ?_) | refine AW.drawU (id := 1) mixed 0 qR ?_ | refine AW.drawU (id := 2) mixed 0 qR ?_ | refine AW.drawU (id := 8) mixed 0 qR ?_ | fail)
    refine uQ (cS1) 0 ?_
    repeat' (first | ((with_reducible refine kAL ?_); (first | (refine kL 12 rfl ?_; first | refine A_append_nlsub rfl rfl _ _ 22 rfl ud22 inf3 rfl rfl rfl rfl (by (try simp only [List.length_map, List.length_append, List.length_cons, List.length_nil]); omega) qB qB List.map_drop.symm (.push qL qN) ?_) | refine uA ?_ | refine uS 64 (fun hb => ?_) (fun hb => ?_))) | ((with_reducible refine kRG ?_); (first | (refine kR 266 rfl ?_; first | (first | refine uQ (cC) 0 ?_ | refine uQ (cC) 1 ?_ | refine uQ (cC) 2 ?_ | refine uQ (cC) 3 ?_ | refine uQ (cC) 4 ?_ | refine uQ (cC) 5 ?_ | refine uQ (cC) 6 ?_ | refine uQ (cC) 7 ?_ | refine uQ (cC) 8 ?_ | refine uQ (cC) 9 ?_ | refine uQ (cC) 10 ?_ | refine uQ (cC) 11 ?_ | refine uQ (cC) 12 ?_ | refine uQ (cC) 13 ?_)) | refine uR ?_)) | refine uC ?_ | refine kcp rfl (fun hc => ?_) (fun hc => ?_) | refine kcn rfl (fun hc => ?_) (fun hc => ?_) | refine kcb rfl (fun hc => ?_) (fun hc => ?_) | refine kcc rfl (fun hc => ?_) (fun hc => ?_) | refine AW.drawU (id := 1) mixed 0 qR ?_ | refine AW.drawU (id := 2) mixed 0 qR ?_ | refine AW.drawU (id := 8) mixed 0 qR ?_ | fail)
    refine uQ (cS2) 0 ?_
    repeat' (first | ((with_reducible refine kAL ?_); (first | (refine kL 12 rfl ?_; first | refine A_append_nlsub rfl rfl _ _ 22 rfl ud22 inf3 rfl rfl rfl rfl (by (try simp only [List.length_map, List.length_append, List.length_cons, List.length_nil]); omega) qB qB List.map_drop.symm (.push qL qN) ?_) | refine uA ?_ | refine uS 64 (fun hb => ?_) (fun hb => ?_))) | refine uR ?_ | refine uC ?_ | refine kcp rfl (fun hc => ?_) (fun hc => ?_) | refine kcn rfl (fun hc => ?_) (fun hc => ?_) | refine kcb rfl (fun hc => ?_) (fun hc => ?_) | refine kcc rfl (fun hc => ?_) (fun hc => ?_) | refine AW.drawU (id := 1) mixed 0 qR ?_ | refine AW.drawU (id := 2) mixed 0 qR ?_ | refine AW.drawU (id := 8) mixed 0 qR ?_ | fail)
    all_goals first | (exfalso; omega) | skip
    refine AW.wk (Wk.own 9 rfl 3 1 (.push rfl rfl)) ?_
    refine AW.loopP (fun (x : Nat × Nat) => x.1 ≤ R.length) (fun (x : Nat × Nat) => (pu (pu (pu (pu (pu (pu (pu (fun _ => .any) 3 (.ptr 0 0)) 4 (.ptr 1 0)) 7 (.t (.lst (R.map tSg)))) 8 (.t (.lst (R.map tSg)))) 9 (.sl 2 x.2 (R.take x.1).flatten.length)) 39 (i64 (R.map tSg).length)) 40 (i64 x.1))) (fun (x : Nat × Nat) => [.box 25 [i64 cap, .ln (l.map tI), .ln (dn.map tR)], .box 25 [i64 cap', .ln (l'.map tI), .ln (dn'.map tR)], .row x.2 3 1 ((R.take x.1).flatten.map tI)]) (fun (x : Nat × Nat) => R.length - x.1) ((0, 0)) ?_ ?_ ?_
    · exact Nat.zero_le _
    · exact Wk.cq 3
    · rintro ⟨i, k⟩ hi
      dsimp only at hi ⊢
      by_cases hlt : i < R.length
      · obtain ⟨r, hr⟩ : ∃ r, R[i]? = some r := ⟨_, List.getElem?_eq_getElem hlt⟩
        obtain ⟨e, hle⟩ := hb i r hr
        have cI := ints_c r r (by omega)
        rw [decide_eq_true rfl] at cI
        have h5 : ((R.take i).flatten.map tI).length = (R.take i).flatten.length := List.length_map _
        have h6 : (r.map tI).length = r.length := List.length_map _
        generalize hfl : (R.take i).flatten = fl at *
        repeat' (first | ((with_reducible refine kAL ?_); (first | (refine kL 12 rfl ?_; first | refine A_append_nlsub rfl rfl _ _ 22 rfl ud22 inf3 rfl rfl rfl rfl (by (try simp only [List.length_map, List.length_append, List.length_cons, List.length_nil]); omega) qB qB List.map_drop.symm (.push qL qN) ?_) | (refine kL 298 rfl ?_; first | refine uK (cI) ?_) | refine uA ?_ | refine uS 64 (fun hb => ?_) (fun hb => ?_))) | ((with_reducible refine kRG ?_); (first | (refine kR 298 rfl ?_; first | (first | refine uQ (cI) 0 ?_ | refine uQ (cI) 1 ?_ | refine uQ (cI) 2 ?_ | refine uQ (cI) 3 ?_ | refine uQ (cI) 4 ?_ | refine uQ (cI) 5 ?_ | refine uQ (cI) 6 ?_ | refine uQ (cI) 7 ?_ | refine uQ (cI) 8 ?_ | refine uQ (cI) 9 ?_ | refine uQ (cI) 10 ?_ | refine uQ (cI) 11 ?_ | refine uQ (cI) 12 ?_ | refine uQ (cI) 13 ?_)) | refine uR ?_)) | refine uC ?_ | refine kcp rfl (fun hc => ?_) (fun hc => ?_) | refine kcn rfl (fun hc => ?_) (fun hc => ?_) | refine kcb rfl (fun hc => ?_) (fun hc => ?_) | refine kcc rfl (fun hc => ?_) (fun hc => ?_) | refine AW.drawU (id := 1) mixed 0 qR ?_ | refine AW.drawU (id := 2) mixed 0 qR ?_ | refine AW.drawU (id := 8) mixed 0 qR ?_ | fail)
        all_goals first | (exfalso; omega) | skip
        refine ⟨(i + 1, k + 1), by dsimp only; omega, by dsimp only; omega, ?_⟩
        dsimp only
        rw [e, List.length_append]
        exact Wk.cq 3
      · obtain rfl : i = R.length := by omega
        rw [hE]
        repeat' (first | ((with_reducible refine kAL ?_); (first | (refine kL 12 rfl ?_; first | refine A_append_nlsub rfl rfl _ _ 22 rfl ud22 inf3 rfl rfl rfl rfl (by (try simp only [List.length_map, List.length_append, List.length_cons, List.length_nil]); omega) qB qB List.map_drop.symm (.push qL qN) ?_) | (refine kL 298 rfl ?_; first | refine uK (cZ) ?_) | (refine kL 330 rfl ?_; first | refine uK (aw) ?_) | refine uA ?_ | refine uS 64 (fun hb => ?_) (fun hb => ?_))) | ((with_reducible refine kRG ?_); (first | (refine kR 298 rfl ?_; first | (first | refine uQ (cZ) 0 ?_ | refine uQ (cZ) 1 ?_ | refine uQ (cZ) 2 ?_ | refine uQ (cZ) 3 ?_ | refine uQ (cZ) 4 ?_ | refine uQ (cZ) 5 ?_ | refine uQ (cZ) 6 ?_ | refine uQ (cZ) 7 ?_ | refine uQ (cZ) 8 ?_ | refine uQ (cZ) 9 ?_ | refine uQ (cZ) 10 ?_ | refine uQ (cZ) 11 ?_ | refine uQ (cZ) 12 ?_ | refine uQ (cZ) 13 ?_)) | refine uR ?_)) | refine uC ?_ | refine kcp rfl (fun hc => ?_) (fun hc => ?_) | refine kcn rfl (fun hc => ?_) (fun hc => ?_) | refine kcb rfl (fun hc => ?_) (fun hc => ?_) | refine kcc rfl (fun hc => ?_) (fun hc => ?_) | refine AW.drawU (id := 1) mixed 0 qR ?_ | refine AW.drawU (id := 2) mixed 0 qR ?_ | refine AW.drawU (id := 8) mixed 0 qR ?_ | fail)
        all_goals first | (exfalso; omega) | ((first | exact Fin.q Try.results3 (.cons (.tmp rfl) .nil) [] | refine Fin.q Try.results3 (.cons (.tmp rfl) .nil) [] (hr := (.t ?_)) | refine Fin.mkv (rs := _) Try.results3 (.cons (.tmp rfl) .nil) [] (by decide) rfl ?_ ?_ ?_ <;> repeat' (skip; first | exact .nil | refine .cons rfl ?_ ?_ | refine .cons ?_ ?_ | refine .row ?_ | refine .rset ?_ | refine .box ?_ | exact .gone | refine .aggL ?_ | refine .tupL ?_ | refine .old rfl ?_ | refine .new rfl rfl rfl ?_ | exact .nl | exact .optr rfl | exact .nptr rfl rfl rfl | refine .t ?_ | exact .any _ | rfl)))
end Go.Proofs.Ytmljglphegeilaa


namespace Go.Proofs.Ytmljglphegeilaa
set_option linter.unusedVariables false
set_option linter.unusedSimpArgs false
set_option linter.unnecessarySimpa false
end Go.Proofs.Ytmljglphegeilaa

