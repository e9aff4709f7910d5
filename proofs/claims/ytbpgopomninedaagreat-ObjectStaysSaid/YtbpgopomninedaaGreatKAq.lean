/- Joined: XTObjP, XTShapeR, XTDone, XTCloneR. -/
import Derived.Test.YtbpgopomninedaaGreatKAn
import Derived.Test.YtbpgopomninedaaGreatKAp
import Derived.Test.YtbpgopomninedaaGreatKAg
import Derived.Test.YtbpgopomninedaaGreatKAo
import Derived.Test.YtbpgopomninedaaGreatKAe
namespace Go.Proofs.YtbpgopomninedaaGreat
open Go.RowKit
set_option linter.unusedVariables false
set_option linter.unusedSimpArgs false
set_option linter.unnecessarySimpa false
set_option maxRecDepth 100000
set_option maxHeartbeats 64000000
section
theorem chanOK_set {cap : Int} {l : List DChan} (h : ∀ x ∈ l, chanOK cap x = true) {n : Nat} {y : DChan} (hy : chanOK cap y = true) : ∀ x ∈ l.set n y, chanOK cap x = true := fun x hx => by
 rcases List.mem_or_eq_of_mem_set hx with hx | rfl
 ·exact h x hx
 ·exact hy
theorem waitOK_set {l : List DWait} (h : ∀ w ∈ l, waitOK w = true) {n : Nat} {y : DWait} (hy : waitOK y = true) : ∀ w ∈ l.set n y, waitOK w = true := fun x hx => by
 rcases List.mem_or_eq_of_mem_set hx with hx | rfl
 ·exact h x hx
 ·exact hy
theorem waitOK_0 : waitOK w0 = true := by decide
theorem waitOK_cut {l : List DWait} (h : ∀ w ∈ l, waitOK w = true) (t : Int) : ∀ w ∈ cutW l t, waitOK w = true := by
 unfold cutW; split
 ·exact waitOK_set h waitOK_0
 ·exact h
theorem waitOK_cuts (S : List Int) : ∀ {l : List DWait}, (∀ w ∈ l, waitOK w = true) → ∀ w ∈ S.foldl cutW l, waitOK w = true := by
 induction S with
 | nil => intro l h; exact h
 | cons a S ih => intro l h; exact ih (waitOK_cut h a)
theorem goodR_note {d : List Rst} (h : ∀ r ∈ d, goodR r = true) {t : Int} {r : Rst} (hr : goodR r = true) : ∀ x ∈ noteL d t r, goodR x = true := fun x hx => by
 rcases noteL_mem hx with hx | rfl
 ·exact h x hx
 ·exact hr
theorem goodR_tell (S : List DTold) : ∀ {d : List Rst}, (∀ r ∈ d, goodR r = true) → (∀ x ∈ S, goodR x.result = true) → ∀ r ∈ tellL d S, goodR r = true := by
 induction S with
 | nil => intro d h _; exact h
 | cons a S ih => intro d h hs; exact ih (goodR_note h (hs a (by simp))) fun x hx => hs x (by simp [hx])
theorem n_v : (0 : Int) ≤ 0 ∧ (0 : Int) ≤ 4294967295 := by decide
theorem n_e0 : (0 : Int) ≤ 0 ∧ (0 : Int) < 256 := by decide
theorem n_e9 : (0 : Int) ≤ 9 ∧ (9 : Int) < 256 := by decide
theorem n_e10 : (0 : Int) ≤ 10 ∧ (10 : Int) < 256 := by decide
theorem n_k : (0 : Int) ≤ 0 ∧ (0 : Int) < 16 := by decide
theorem n_t : ∀ x ∈ ([] : List DTold), goodR x.result = true := fun _ h => by cases h
theorem waitOK_put {l : List DWait} (h : ∀ w ∈ l, waitOK w = true) (t : Int) {w : DWait} (hw : waitOK ⟨true, w.ticket, w.seq, w.cases⟩ = true) : ∀ x ∈ putW l t w, waitOK x = true := by
 unfold putW; split
 ·exact waitOK_set h hw
 ·exact h
structure GOk (cap : Int) (g : DG) : Prop where
 c : chanOK cap g.c = true
 l : ∀ w ∈ g.l, waitOK w = true
 t : ∀ x ∈ g.told, goodR x.result = true
 v : 0 ≤ g.r.value ∧ g.r.value ≤ 4294967295
 e : 0 ≤ g.r.code ∧ g.r.code < 256
theorem headD_b {l : List Int} (h : ∀ y ∈ l, 0 ≤ y ∧ y ≤ 4294967295) : 0 ≤ l.headD 0 ∧ l.headD 0 ≤ 4294967295 := by
 cases l with
 | nil => exact ⟨Int.le_refl _, by decide⟩
 | cons a l => exact h a (by simp)
theorem doG_fit {cap : Int} {c : DChan} {x : Int} {l : List DWait} {d v : Int} (hc : chanOK cap c = true) (hl : ∀ w ∈ l, waitOK w = true) (hv : 0 ≤ v ∧ v ≤ 4294967295) : GOk cap (doG c x l d v) := by
 have hc0 := hc
 obtain ⟨h1, h2, ⟨h3, h4⟩, h5⟩ := chanOK_iff.1 hc
 have told : ∀ {f : FS} {t m : Nat} {w : DWait} {k : DCase} {z : Int}, f.th = t → f.wh = m → l[t]? = some w → w.cases[m]? = some k → (0 ≤ z ∧ z ≤ 4294967295) → ∀ y ∈ [(⟨f.th, ⟨(thW l f).seq, f.wh, 0, z⟩⟩ : DTold)], goodR y.result = true := fun {f t m w k z} e1 e2 hw hk hz y hy => by
  rw [List.mem_singleton] at hy
  subst hy
  have hb := waitOK_b (hl w (List.mem_of_getElem? hw))
  have hm := get_lt hk
  have := hb.n
  unfold thW
  rw [goodR_iff, e1, Int.toNat_natCast, getD_of hw, e2]
  dsimp only
  refine ⟨by omega, by omega, by omega, hb.s⟩
 unfold doG
 split
 ·rename_i hr
  unfold rdyC at hr
  simp only [Bool.and_eq_true, Bool.or_eq_true, decide_eq_true_eq] at hr
  split
  ·rename_i hd
   split
   ·exact ⟨hc, hl, n_t, n_v, n_e9⟩
   ·rename_i hcl
    unfold sendG
    split
    ·rename_i hf
     obtain ⟨t, m, w, k, e1, e2, hw, ho, hk, _, _⟩ := fir_ok hf
     refine ⟨hc, ?_, told e1 e2 hw hk hv, n_v, n_e0⟩
     exact waitOK_cut hl _
    ·rename_i hf
     refine ⟨?_, hl, n_t, n_v, n_e0⟩
     rw [chanOK_iff]
     unfold chB
     dsimp only
     rw [if_pos hd] at hr
     simp only [Bool.or_eq_true, decide_eq_true_eq] at hr
     obtain ⟨hu, (hr | hr) | hr⟩ := hr
     ·exact absurd hr hcl
     ·exact absurd hr hf
     ·refine ⟨h1, h2, ⟨by rw [List.length_append]; simp only [List.length_cons, List.length_nil]; omega, fun y hy => ?_⟩, .inl hu⟩
      rcases List.mem_append.1 hy with hy | hy
      ·exact h4 y hy
      ·rw [List.mem_singleton] at hy; subst hy; exact hv
  ·split
   ·unfold recvG
    split
    ·rename_i hf
     obtain ⟨t, m, w, k, e1, e2, hw, ho, hk, _, _⟩ := fir_ok hf
     have hb := waitOK_b (hl w (List.mem_of_getElem? hw))
     have hz : 0 ≤ thV l (fir l 1 x) ∧ thV l (fir l 1 x) ≤ 4294967295 := by
      unfold thV thW
      rw [e1, Int.toNat_natCast, getD_of hw, e2, Int.toNat_natCast, getD_of hk]
      exact (caseOK_iff.1 (hb.k k (List.mem_of_getElem? hk))).2.2
     have hall : ∀ y ∈ c.buf ++ [thV l (fir l 1 x)], 0 ≤ y ∧ y ≤ 4294967295 := fun y hy => by
      rcases List.mem_append.1 hy with hy | hy
      ·exact h4 y hy
      ·rw [List.mem_singleton] at hy; subst hy; exact hz
     refine ⟨?_, waitOK_cut hl _, told e1 e2 hw hk n_v, headD_b hall, n_e0⟩
     rw [chanOK_iff]
     unfold chB
     exact ⟨h1, h2, ⟨by dsimp only; rw [List.length_drop, List.length_append]; simp only [List.length_cons, List.length_nil]; omega, fun y hy => hall y (List.mem_of_mem_drop hy)⟩, h5⟩
    ·refine ⟨?_, hl, n_t, headD_b h4, n_e0⟩
     rw [chanOK_iff]
     unfold chB
     exact ⟨h1, h2, ⟨by dsimp only; rw [List.length_drop]; omega, fun y hy => h4 y (List.mem_of_mem_drop hy)⟩, h5⟩
   ·exact ⟨hc, hl, n_t, n_v, n_e9⟩
 ·exact ⟨hc, hl, n_t, n_v, n_e10⟩
theorem onS_in {l : List DWait} {h : Int} {z : Int} (hz : z ∈ onS l h) : ∃ (n : Nat) (w : DWait), z = n ∧ l[n]? = some w ∧ w.on = true ∧ 0 ≤ ixF (isH h) w.cases := by
 have hm := isort_mem.1 hz
 have : ∀ k, k ≤ l.length → z ∈ onK l h k → ∃ (n : Nat) (w : DWait), z = n ∧ l[n]? = some w ∧ w.on = true ∧ 0 ≤ ixF (isH h) w.cases := by
  intro k
  induction k with
  | zero => intro _ hm; cases hm
  | succ k ih =>
   intro hk hm
   obtain ⟨a, ha⟩ : ∃ a, l[k]? = some a := ⟨_, List.getElem?_eq_getElem (by omega)⟩
   rw [onK_next ha] at hm
   split at hm
   ·rename_i hc
    simp only [Bool.and_eq_true, decide_eq_true_eq] at hc
    rcases List.mem_append.1 hm with hm | hm
    ·exact ih (by omega) hm
    ·rw [List.mem_singleton] at hm
     exact ⟨k, a, hm, ha, hc.1, hc.2⟩
   ·exact ih (by omega) hm
 exact this _ (Nat.le_refl _) hm
theorem shutG_ok {cap : Int} {c : DChan} {x : Int} {l : List DWait} (hc : chanOK cap c = true) (hl : ∀ w ∈ l, waitOK w = true) : chanOK cap (shutG c x l).c = true ∧ (∀ w ∈ (shutG c x l).l, waitOK w = true) ∧ (∀ y ∈ (shutG c x l).told, goodR y.result = true) ∧ 0 ≤ (shutG c x l).e ∧ (shutG c x l).e < 256 := by
 obtain ⟨h1, h2, ⟨h3, h4⟩, h5⟩ := chanOK_iff.1 hc
 unfold shutG
 split
 ·refine ⟨?_, waitOK_cuts _ hl, fun y hy => ?_, Int.le_refl _, (by show (0 : Int) < 256; decide)⟩
  ·rw [chanOK_iff]; exact ⟨h1, h2, ⟨h3, h4⟩, .inl rfl⟩
  ·obtain ⟨z, hz, rfl⟩ := List.mem_map.1 hy
   obtain ⟨n, w, rfl, hw, _, hi⟩ := onS_in hz
   have hb := waitOK_b (hl w (List.mem_of_getElem? hw))
   have h6 := (ixF_b (isH x) w.cases).2
   have := hb.n
   unfold shT
   rw [goodR_iff, Int.toNat_natCast, getD_of hw]
   dsimp only
   exact ⟨by decide, by decide, by omega, hb.s⟩
 ·exact ⟨hc, hl, fun _ h => absurd h (by simp), (by show (0 : Int) ≤ 9; decide), (by show (9 : Int) < 256; decide)⟩
structure Fh (c : DConf) (h : DHall) : Prop where
 tk : 0 ≤ h.ticket ∧ h.ticket ≤ 4294967295
 ch : ∀ x ∈ h.chans, chanOK c.cap x = true
 w : ∀ w ∈ h.waits, waitOK w = true
 d : ∀ r ∈ h.done, goodR r = true
structure Fru (r : Rst) : Prop where
 v : 0 ≤ r.value ∧ r.value ≤ 4294967295
 e : 0 ≤ r.code ∧ r.code < 256
 k : 0 ≤ r.cas ∧ r.cas < 16
theorem Fru.code {e : Int} (h : 0 ≤ e ∧ e < 256) : Fru ⟨0, 0, e, 0⟩ := ⟨n_v, h, n_k⟩
theorem chkC_gens {c : DConf} (h : chkC c = true) (k : c.kind = 3) : 1 ≤ c.gens ∧ c.gens ≤ 4095 ∧ (c.start.length : Int) ≤ c.chans ∧ ∀ n ∈ c.start, 0 ≤ n ∧ n ≤ c.cap := by
 unfold chkC at h
 simp only [Bool.and_eq_true] at h
 have o := h.2
 unfold ownC at o
 rw [if_neg (by omega), if_pos k] at o
 simp only [Bool.and_eq_true, inI_iff, decide_eq_true_eq, Bool.not_eq_true', List.any_eq_false, Bool.not_eq_false'] at o
 refine ⟨o.1.1.2.1, o.1.1.2.2, o.1.2, fun n hn => ?_⟩
 have := o.2 n hn
 simpa [inI] using this
theorem callH_fit {c : DConf} {h : DHall} {t n : Int} {q : DReq} (k : chkC c = true) (k3 : c.kind = 3) (b : Fh c h) (hq : fitQ q = true) (hn : 0 ≤ n ∧ n ≤ 1048575) : Fh c (callH c h t n q).1 ∧ Fru (callH c h t n q).2 := by
 have sh := chkC_shaped k
 obtain ⟨s1, s2, s3, s4⟩ := sh.h3 k3
 obtain ⟨q1, q2, q3, q4, q5⟩ := fitQ_iff.1 hq
 have dec : ∀ e : Int, e = 0 ∨ e = 1 ∨ e = 6 ∨ e = 7 ∨ e = 8 ∨ e = 10 ∨ e = 12 ∨ e = 13 ∨ e = 14 → Fru ⟨0, 0, e, 0⟩ := fun e he => Fru.code (by omega)
 unfold callH
 split
 ·unfold openH; split
  ·exact ⟨b, dec _ (by simp)⟩
  ·split
   ·rename_i hcap h0
    obtain ⟨hm, hp⟩ := ixF_mem (d := (default : DChan)) h0
    have hg := (chanOK_iff.1 (b.ch _ hm)).1
    dsimp only [chA]
    generalize h.chans.getD (ixF (okO c) h.chans).toNat default = a at hg hp ⊢
    unfold okO at hp
    simp only [Bool.and_eq_true, decide_eq_true_eq] at hp
    have hp2 := hp.2
    refine ⟨⟨b.tk, ?_, b.w, b.d⟩, ⟨?_, n_e0, n_k⟩⟩
    ·refine chanOK_set b.ch ?_
     rw [chanOK_iff]
     exact ⟨⟨by dsimp only; omega, by dsimp only; omega⟩, ⟨by dsimp only; omega, by dsimp only; omega⟩, ⟨by dsimp only [List.length_nil]; omega, fun y hy => by cases hy⟩, .inl rfl⟩
    ·dsimp only
     unfold hdl
     split <;> omega
   ·refine ⟨b, ?_⟩
    split
    ·exact dec _ (by simp)
    ·exact dec _ (by simp)
 ·split
  ·unfold freeH; split
   ·rename_i hf
    split
    ·refine ⟨⟨b.tk, ?_, b.w, b.d⟩, dec _ (by simp)⟩
     refine chanOK_set b.ch ?_
     have hg := (chanOK_iff.1 (b.ch _ (fnd_mem hf))).1
     rw [chanOK_iff]
     exact ⟨hg, ⟨by dsimp only; omega, by dsimp only; omega⟩, ⟨by dsimp only [List.length_nil]; omega, fun y hy => by cases hy⟩, .inr ⟨rfl, rfl⟩⟩
    ·exact ⟨b, dec _ (by simp)⟩
   ·exact ⟨b, dec _ (by simp)⟩
  ·split
   ·unfold chooseH; split
    ·refine ⟨b, dec _ ?_⟩
     unfold casesE
     repeat' split
     all_goals simp
    ·rename_i hE
     obtain ⟨h3, h3', -, h5⟩ := casesE_0 (Decidable.not_not.1 hE)
     split
     ·rename_i h0
      obtain ⟨hm, -⟩ := ixF_mem (d := (default : DCase)) h0
      have hf := h5 _ hm
      have hcs := q5 _ hm
      have hlt := (ixF_b (rdyK h) q.cases).2
      generalize q.cases.getD (ixF (rdyK h) q.cases).toNat default = z at hf hcs ⊢
      have g := doG_fit (x := z.handle) (d := z.dir) (b.ch _ (fnd_mem hf)) b.w (caseOK_iff.1 hcs).2.2
      unfold oneH gotH
      exact ⟨⟨b.tk, chanOK_set b.ch g.c, g.l, goodR_tell _ b.d g.t⟩, ⟨g.v, g.e, ⟨h0, by dsimp only; omega⟩⟩⟩
     ·split
      ·exact ⟨b, dec _ (by simp)⟩
      ·split
       ·exact ⟨b, dec _ (by simp)⟩
       ·rename_i htk
        split
        ·refine ⟨⟨⟨by have := b.tk.1; dsimp only; omega, by dsimp only; omega⟩, b.ch, ?_, b.d⟩, dec _ (by simp)⟩
         refine waitOK_put b.w _ ?_
         rw [waitOK_iff]
         exact .inl ⟨rfl, b.tk, hn, ⟨h3', h3⟩, q5⟩
        ·exact ⟨b, dec _ (by simp)⟩
   ·split
    ·unfold closeH; split
     ·rename_i hf
      obtain ⟨g1, g2, g3, g4⟩ := shutG_ok (x := q.arg) (b.ch _ (fnd_mem hf)) b.w
      exact ⟨⟨b.tk, chanOK_set b.ch g1, g2, goodR_tell _ b.d g3⟩, Fru.code g4⟩
     ·exact ⟨b, dec _ (by simp)⟩
    ·split
     ·refine ⟨b, ?_⟩
      unfold lookH
      split
      ·rename_i hf
       obtain ⟨h1, h2, ⟨h3, h4⟩, h5⟩ := chanOK_iff.1 (b.ch _ (fnd_mem hf))
       split
       ·exact ⟨⟨by dsimp only; omega, by dsimp only; omega⟩, n_e0, n_k⟩
       ·exact ⟨⟨by dsimp only; omega, by dsimp only; omega⟩, n_e0, n_k⟩
      ·exact dec _ (by simp)
     ·split
      ·unfold cancelH; split
       ·rename_i hc
        unfold mayCut cutOk at hc
        simp only [Bool.and_eq_true, decide_eq_true_eq] at hc
        obtain ⟨⟨⟨c1, c2, c3⟩, c4⟩, c5⟩ := hc
        have hs := (waitOK_b (b.w _ (getD_mem (d := default) (l := h.waits) (n := q.arg.toNat) (by omega)))).s
        rw [c5] at hs
        refine ⟨⟨b.tk, b.ch, waitOK_cut b.w _, goodR_note b.d ?_⟩, dec _ (by simp)⟩
        rw [goodR_iff]
        exact ⟨⟨by dsimp only; decide, by dsimp only; decide⟩, ⟨by dsimp only; decide, by dsimp only; decide⟩, ⟨by dsimp only; decide, by dsimp only; decide⟩, hs⟩
       ·exact ⟨b, dec _ (by simp)⟩
      ·exact ⟨b, dec _ (by simp)⟩
theorem fitsH_apply {c : DConf} {h : DHall} {t n : Int} {q : DReq} (f : fitsH c h = true) (hq : fitQ q = true) (hn : 0 ≤ n ∧ n ≤ 1048575) : fitsH c (applyH c h t n q) = true := by
 obtain ⟨k, k3, f1, f2, f3, ⟨f4, f5⟩, f6, f7⟩ := fitsH_iff.1 f
 obtain ⟨b, r⟩ := callH_fit (t := t) k k3 ⟨f1, f6, f7, f5⟩ hq hn
 have hl := applyH_len c h t n q
 have hw := applyH_wlen c h t n q
 refine fitsH_iff.2 ⟨k, k3, b.tk, by rw [hl.1]; exact f2, by rw [hw]; exact f3, ⟨by rw [hl.2]; exact f4, ?_⟩, b.ch, b.w⟩
 refine goodR_note b.d ?_
 rw [goodR_iff]
 exact ⟨⟨r.v.1, by have := r.v.2; dsimp only; omega⟩, r.e, r.k, hn⟩
theorem fitsH_start {c : DConf} (k : chkC c = true) (k3 : c.kind = 3) : fitsH c (startH c) = true := by
 have sh := chkC_shaped k
 obtain ⟨s1, s2, s3, s4⟩ := sh.h3 k3
 obtain ⟨g1, g2, g3, g4⟩ := chkC_gens k k3
 have hp : ((plN c : Nat) : Int) = c.chans := by unfold plN; omega
 have ht : ((thN c : Nat) : Int) = c.threads := by have := sh.t0; have := sh.t1; unfold thN; omega
 have ln := startH_ln c
 refine fitsH_iff.2 ⟨k, k3, n_v, by rw [ln.c]; exact hp, by rw [ln.w]; exact ht, ⟨by rw [ln.d]; exact ht, fun r hr => ?_⟩, fun x hx => ?_, fun w hw => ?_⟩
 ·rw [List.eq_of_mem_replicate hr]; decide
 ·change x ∈ stC c.start (plN c) (plN c) at hx
  unfold stC at hx
  obtain ⟨j, -, rfl⟩ := List.mem_map.1 hx
  rw [chanOK_iff]
  split
  ·rename_i hj
   have := g4 _ (getD_mem (d := (0 : Int)) hj.2)
   exact ⟨⟨by dsimp only; decide, by dsimp only; decide⟩, this, ⟨by dsimp only [List.length_nil]; omega, fun y hy => by cases hy⟩, .inl rfl⟩
  ·exact ⟨⟨by dsimp only; decide, by dsimp only; decide⟩, ⟨by dsimp only; decide, by dsimp only; omega⟩, ⟨by dsimp only [List.length_nil]; decide, fun y hy => by cases hy⟩, .inr ⟨rfl, rfl⟩⟩
 ·rw [List.eq_of_mem_replicate hw]; decide
theorem mayH_fits {c : DConf} {l : List Int} (h : mayH c l = true) : fitsH c (readH c l) = true ∧ putH c (readH c l) = l := by
 have h0 := h
 unfold mayH at h
 simp only [Bool.and_eq_true, decide_eq_true_eq] at h
 obtain ⟨⟨⟨k, k3⟩, hl⟩, hp⟩ := h
 unfold readH
 rw [if_pos h0]
 refine ⟨?_, hp⟩
 cases hf : fitsH c (rawH c l)
 ·unfold putH at hp
  rw [hf, if_neg (by simp)] at hp
  subst hp
  have sh := chkC_shaped k
  obtain ⟨s1, s2, s3, s4⟩ := sh.h3 k3
  rw [sizeC_H k k3] at hl
  have h1 := sh.t0
  have h2 : 0 ≤ c.chans * (1 + c.cap) := Int.mul_nonneg (by omega) (by omega)
  simp only [List.length_nil] at hl
  omega
 ·rfl
theorem mayX_fits {c : DConf} {l : List Int} (h : mayX c l = true) : fitsX c (readX c l) = true ∧ putX c (readX c l) = l := by
 have h0 := h
 unfold mayX at h
 simp only [Bool.and_eq_true, decide_eq_true_eq] at h
 obtain ⟨⟨⟨k, k3⟩, hl⟩, hp⟩ := h
 unfold readX
 rw [if_pos h0]
 refine ⟨?_, hp⟩
 cases hf : fitsX c (rawX c l)
 ·unfold putX at hp
  rw [hf, if_neg (by simp)] at hp
  subst hp
  have sh := chkC_shaped k
  have := sh.h1 k3
  have h1 := sh.t0
  rw [sizeC_X k k3] at hl
  simp only [List.length_nil] at hl
  omega
 ·rfl
theorem fitsH_sizes {c : DConf} {h : DHall} (f : fitsH c h = true) : okHl h ∧ h.chans.length ≤ 8 ∧ h.waits.length ≤ 64 ∧ h.done.length ≤ 64 := by
 obtain ⟨k, k3, f1, f2, f3, ⟨f4, f5⟩, f6, f7⟩ := fitsH_iff.1 f
 have sh := chkC_shaped k
 obtain ⟨s1, s2, s3, s4⟩ := sh.h3 k3
 have h1 := sh.t1
 refine ⟨⟨by omega, fun x hx => ?_, ⟨by omega, fun w hw => ?_⟩, by omega⟩, by omega, by omega, by omega⟩
 ·obtain ⟨-, g2, ⟨g3, -⟩, -⟩ := chanOK_iff.1 (f6 x hx); omega
 ·have := (waitOK_b (f7 w hw)).n; omega
theorem fitsH_okQ {c : DConf} {h : DHall} (f : fitsH c h = true) {q : DReq} (hq : sRq q) (hl : q.cases.length ≤ 5864062014805) : okQ h q := by
 obtain ⟨k, k3, f1, f2, f3, ⟨f4, f5⟩, f6, f7⟩ := fitsH_iff.1 f
 refine ⟨hq.2.1, hq.2.2.1, hq.2.2.2.2.2, hl, by omega, fun x hx => ?_⟩
 have := (chanOK_iff.1 (f6 x hx)).1
 unfold sI; omega
end
section
attribute [local irreducible] AL AW RG Fin C Cd Cio thenQ blockQ retQ
set_option maxRecDepth 100000
theorem mulB {a b x y : Int} (h1 : 0 ≤ a) (h2 : a ≤ x) (h3 : 0 ≤ b) (h4 : b ≤ y) : 0 ≤ a * b ∧ a * b ≤ x * y := ⟨Int.mul_nonneg h1 h3, Int.mul_le_mul h2 h4 h3 (by omega)⟩
theorem state_c (c : DConf) (hs : c.start.length ≤ 1152921504606846976) : Cd Tryz.prog 34 [aCf c] (i64 (stateC c)) [] := by
 have c1 := check_c c hs
 unfold stateC
 cases hk : chkC c
 ·rw [hk] at c1
  refine Cd.enter' Tryz.func34 rfl Tryz.ntmps34 rfl ?_
  repeat' (first | ((with_reducible refine kAL ?_); (first | refine uK (c1) ?_ | refine uA ?_)) | refine uC ?_ | fail)
  all_goals first | (exfalso; omega) | (exact Fin.q Tryz.results34 (.cons (.tmp rfl) .nil) [])
 ·rw [hk] at c1
  have S := chkC_shaped hk
  have b1 := S.t0
  have b2 := S.t1
  rw [if_pos rfl]
  by_cases k : c.kind = 3
  ·rw [if_pos k]
   have h3 := S.h3 k
   have hp := mulB (a := c.chans) (b := 1 + c.cap) (x := 8) (y := 9) (by omega) (by omega) (by omega) (by omega)
   refine Cd.enter' Tryz.func34 rfl Tryz.ntmps34 rfl ?_
   repeat' (first | ((with_reducible refine kAL ?_); (first | refine uK (c1) ?_ | refine uA ?_)) | refine uC ?_ | fail)
   all_goals first | (exfalso; omega) | (exact Fin.q Tryz.results34 (.cons (.tmp rfl) .nil) [])
  ·rw [if_neg k]
   have h1 := S.h1 k
   refine Cd.enter' Tryz.func34 rfl Tryz.ntmps34 rfl ?_
   repeat' (first | ((with_reducible refine kAL ?_); (first | refine uK (c1) ?_ | refine uA ?_)) | refine uC ?_ | fail)
   all_goals first | (exfalso; omega) | (exact Fin.q Tryz.results34 (.cons (.tmp rfl) .nil) [])
theorem stateC_b {c : DConf} (h : chkC c = true) : 0 ≤ stateC c ∧ stateC c ≤ 329 := by
 have S := chkC_shaped h
 have b1 := S.t0
 have b2 := S.t1
 unfold stateC
 rw [if_pos h]
 by_cases k : c.kind = 3
 ·rw [if_pos k]
  have h3 := S.h3 k
  have hp := mulB (a := c.chans) (b := 1 + c.cap) (x := 8) (y := 9) (by omega) (by omega) (by omega) (by omega)
  omega
 ·rw [if_neg k]
  have h1 := S.h1 k
  omega
theorem size_c (c : DConf) (hs : c.start.length ≤ 1152921504606846976) : Cd Tryz.prog 55 [aCf c] (i64 (sizeC c)) [] := by
 have c1 := check_c c hs
 have c2 := state_c c hs
 unfold sizeC
 cases hk : chkC c
 ·rw [hk] at c1
  refine Cd.enter' Tryz.func55 rfl Tryz.ntmps55 rfl ?_
  repeat' (first | ((with_reducible refine kAL ?_); (first | refine uK (c1) ?_ | refine uA ?_)) | refine uC ?_ | fail)
  all_goals first | (exfalso; omega) | (exact Fin.q Tryz.results55 (.cons (.tmp rfl) .nil) [])
 ·rw [hk] at c1
  have b0 := stateC_b hk
  have S := chkC_shaped hk
  have b1 := S.t0
  have b2 := S.t1
  rw [if_pos rfl]
  refine Cd.enter' Tryz.func55 rfl Tryz.ntmps55 rfl ?_
  repeat' (first | ((with_reducible refine kAL ?_); (first | refine uK (c1) ?_ | refine uA ?_)) | ((with_reducible refine kRG ?_); (first | refine uQ (c2) 0 ?_ | refine uR ?_)) | refine uC ?_ | refine AW.drawU (id := 3) mixed 0 qR ?_ | fail)
  all_goals first | (exfalso; omega) | (exact Fin.q Tryz.results55 (.cons (.tmp rfl) .nil) [])
theorem inR_t {n a b : Int} (h : inI n a b = true) : Cd Tryz.prog 82 [i64 n, i64 a, i64 b] (bo true) [] := by rw [← h]; exact inR_c n a b
theorem inR_f {n a b : Int} (h : inI n a b = false) : Cd Tryz.prog 82 [i64 n, i64 a, i64 b] (bo false) [] := by rw [← h]; exact inR_c n a b
theorem rchk_c (c : DConf) (hs : c.start.length ≤ 1152921504606846976) : Cd Tryz.prog 36 [aCf c] (i64 (if chkC c then 0 else 1)) [] := by
 have h0 : (c.start.map tI).length = c.start.length := List.length_map _
 have hst : c.start = [] ↔ c.start.length = 0 := List.length_eq_zero_iff.symm
 cases h1 : inI c.threads 1 64
 ·rw [show chkC c = false by unfold chkC; simp [*], if_neg (by decide)]
  first | refine Cd.enter' Tryz.func36 rfl Tryz.ntmps36 rfl ?_ | refine Cio.enter' Tryz.func36 rfl Tryz.ntmps36 rfl qM ?_ | refine C.enter' Tryz.func36 rfl Tryz.ntmps36 rfl qM ?_
  repeat' (first | ((with_reducible refine kAL ?_); (first | (refine uK (inR_f ?zq0) ?_; (case zq0 => assumption)) | refine uA ?_)) | refine uC ?_ | fail)
  all_goals first | (exfalso; omega) | (exact Fin.q Tryz.results36 (.cons (.tmp rfl) .nil) [])
 cases h2 : inI c.nodes 1 64
 ·rw [show chkC c = false by unfold chkC; simp [*], if_neg (by decide)]
  first | refine Cd.enter' Tryz.func36 rfl Tryz.ntmps36 rfl ?_ | refine Cio.enter' Tryz.func36 rfl Tryz.ntmps36 rfl qM ?_ | refine C.enter' Tryz.func36 rfl Tryz.ntmps36 rfl qM ?_
  repeat' (first | ((with_reducible refine kAL ?_); (first | (refine uK (inR_t ?zq0) ?_; (case zq0 => assumption)) | (refine uK (inR_f ?zq0) ?_; (case zq0 => assumption)) | refine uA ?_)) | refine uC ?_ | fail)
  all_goals first | (exfalso; omega) | (exact Fin.q Tryz.results36 (.cons (.tmp rfl) .nil) [])
 cases h3 : inI c.retire 1 32
 ·rw [show chkC c = false by unfold chkC; simp [*], if_neg (by decide)]
  first | refine Cd.enter' Tryz.func36 rfl Tryz.ntmps36 rfl ?_ | refine Cio.enter' Tryz.func36 rfl Tryz.ntmps36 rfl qM ?_ | refine C.enter' Tryz.func36 rfl Tryz.ntmps36 rfl qM ?_
  repeat' (first | ((with_reducible refine kAL ?_); (first | (refine uK (inR_t ?zq0) ?_; (case zq0 => assumption)) | (refine uK (inR_f ?zq0) ?_; (case zq0 => assumption)) | refine uA ?_)) | refine uC ?_ | fail)
  all_goals first | (exfalso; omega) | (exact Fin.q Tryz.results36 (.cons (.tmp rfl) .nil) [])
 cases h4 : inI c.patience 0 4
 ·rw [show chkC c = false by unfold chkC; simp [*], if_neg (by decide)]
  first | refine Cd.enter' Tryz.func36 rfl Tryz.ntmps36 rfl ?_ | refine Cio.enter' Tryz.func36 rfl Tryz.ntmps36 rfl qM ?_ | refine C.enter' Tryz.func36 rfl Tryz.ntmps36 rfl qM ?_
  repeat' (first | ((with_reducible refine kAL ?_); (first | (refine uK (inR_t ?zq0) ?_; (case zq0 => assumption)) | (refine uK (inR_f ?zq0) ?_; (case zq0 => assumption)) | refine uA ?_)) | refine uC ?_ | fail)
  all_goals first | (exfalso; omega) | (exact Fin.q Tryz.results36 (.cons (.tmp rfl) .nil) [])
 cases h5 : inI c.tags 1 4294967295
 ·rw [show chkC c = false by unfold chkC; simp [*], if_neg (by decide)]
  first | refine Cd.enter' Tryz.func36 rfl Tryz.ntmps36 rfl ?_ | refine Cio.enter' Tryz.func36 rfl Tryz.ntmps36 rfl qM ?_ | refine C.enter' Tryz.func36 rfl Tryz.ntmps36 rfl qM ?_
  repeat' (first | ((with_reducible refine kAL ?_); (first | (refine uK (inR_t ?zq0) ?_; (case zq0 => assumption)) | (refine uK (inR_f ?zq0) ?_; (case zq0 => assumption)) | refine uA ?_)) | refine uC ?_ | fail)
  all_goals first | (exfalso; omega) | (exact Fin.q Tryz.results36 (.cons (.tmp rfl) .nil) [])
 cases h6 : inI c.seqs 1 1048575
 ·rw [show chkC c = false by unfold chkC; simp [*], if_neg (by decide)]
  first | refine Cd.enter' Tryz.func36 rfl Tryz.ntmps36 rfl ?_ | refine Cio.enter' Tryz.func36 rfl Tryz.ntmps36 rfl qM ?_ | refine C.enter' Tryz.func36 rfl Tryz.ntmps36 rfl qM ?_
  repeat' (first | ((with_reducible refine kAL ?_); (first | (refine uK (inR_t ?zq0) ?_; (case zq0 => assumption)) | (refine uK (inR_f ?zq0) ?_; (case zq0 => assumption)) | refine uA ?_)) | refine uC ?_ | fail)
  all_goals first | (exfalso; omega) | (exact Fin.q Tryz.results36 (.cons (.tmp rfl) .nil) [])
 have hC : chkC c = ownC c := by unfold chkC; simp [*]
 rw [hC]
 unfold ownC
 by_cases k : c.kind = 1 ∨ c.kind = 2
 ·rw [if_pos k]
  cases h7 : inI c.cap 1 16
  ·rw [if_neg (by simp)]
   first | refine Cd.enter' Tryz.func36 rfl Tryz.ntmps36 rfl ?_ | refine Cio.enter' Tryz.func36 rfl Tryz.ntmps36 rfl qM ?_ | refine C.enter' Tryz.func36 rfl Tryz.ntmps36 rfl qM ?_
   repeat' (first | ((with_reducible refine kAL ?_); (first | (refine uK (inR_t ?zq0) ?_; (case zq0 => assumption)) | (refine uK (inR_f ?zq0) ?_; (case zq0 => assumption)) | refine uA ?_ | refine uS 42 (fun hb => ?_) (fun hb => ?_))) | refine uC ?_ | fail)
   all_goals first | (exfalso; omega) | (exact Fin.q Tryz.results36 (.cons (.tmp rfl) .nil) [])
  by_cases e1 : c.chans = 0
  ·by_cases e2 : c.gens = 0
   ·by_cases e3 : c.start.length = 0
    ·have e4 : c.start = [] := hst.2 e3
     rw [if_pos (by simp [e4, e1, e2])]
     first | refine Cd.enter' Tryz.func36 rfl Tryz.ntmps36 rfl ?_ | refine Cio.enter' Tryz.func36 rfl Tryz.ntmps36 rfl qM ?_ | refine C.enter' Tryz.func36 rfl Tryz.ntmps36 rfl qM ?_
     repeat' (first | ((with_reducible refine kAL ?_); (first | (refine uK (inR_t ?zq0) ?_; (case zq0 => assumption)) | refine uA ?_ | refine uS 42 (fun hb => ?_) (fun hb => ?_))) | refine uC ?_ | fail)
     all_goals first | (exfalso; omega) | (exact Fin.q Tryz.results36 (.cons (.tmp rfl) .nil) [])
    ·have e4 : c.start ≠ [] := fun h => e3 (hst.1 h)
     rw [if_neg (by simp [e4])]
     first | refine Cd.enter' Tryz.func36 rfl Tryz.ntmps36 rfl ?_ | refine Cio.enter' Tryz.func36 rfl Tryz.ntmps36 rfl qM ?_ | refine C.enter' Tryz.func36 rfl Tryz.ntmps36 rfl qM ?_
     repeat' (first | ((with_reducible refine kAL ?_); (first | (refine uK (inR_t ?zq0) ?_; (case zq0 => assumption)) | refine uA ?_ | refine uS 42 (fun hb => ?_) (fun hb => ?_))) | refine uC ?_ | fail)
     all_goals first | (exfalso; omega) | (exact Fin.q Tryz.results36 (.cons (.tmp rfl) .nil) [])
   ·rw [if_neg (by simp [e2])]
    first | refine Cd.enter' Tryz.func36 rfl Tryz.ntmps36 rfl ?_ | refine Cio.enter' Tryz.func36 rfl Tryz.ntmps36 rfl qM ?_ | refine C.enter' Tryz.func36 rfl Tryz.ntmps36 rfl qM ?_
    repeat' (first | ((with_reducible refine kAL ?_); (first | (refine uK (inR_t ?zq0) ?_; (case zq0 => assumption)) | refine uA ?_ | refine uS 42 (fun hb => ?_) (fun hb => ?_))) | refine uC ?_ | fail)
    all_goals first | (exfalso; omega) | (exact Fin.q Tryz.results36 (.cons (.tmp rfl) .nil) [])
  ·rw [if_neg (by simp [e1])]
   first | refine Cd.enter' Tryz.func36 rfl Tryz.ntmps36 rfl ?_ | refine Cio.enter' Tryz.func36 rfl Tryz.ntmps36 rfl qM ?_ | refine C.enter' Tryz.func36 rfl Tryz.ntmps36 rfl qM ?_
   repeat' (first | ((with_reducible refine kAL ?_); (first | (refine uK (inR_t ?zq0) ?_; (case zq0 => assumption)) | refine uA ?_ | refine uS 42 (fun hb => ?_) (fun hb => ?_))) | refine uC ?_ | fail)
   all_goals first | (exfalso; omega) | (exact Fin.q Tryz.results36 (.cons (.tmp rfl) .nil) [])
 ·rw [if_neg k]
  by_cases k3 : c.kind = 3
  ·rw [if_pos k3]
   cases h8 : inI c.chans 1 8
   ·rw [if_neg (by simp)]
    first | refine Cd.enter' Tryz.func36 rfl Tryz.ntmps36 rfl ?_ | refine Cio.enter' Tryz.func36 rfl Tryz.ntmps36 rfl qM ?_ | refine C.enter' Tryz.func36 rfl Tryz.ntmps36 rfl qM ?_
    repeat' (first | ((with_reducible refine kAL ?_); (first | (refine uK (inR_t ?zq0) ?_; (case zq0 => assumption)) | (refine uK (inR_f ?zq0) ?_; (case zq0 => assumption)) | refine uA ?_)) | refine uC ?_ | fail)
    all_goals first | (exfalso; omega) | (exact Fin.q Tryz.results36 (.cons (.tmp rfl) .nil) [])
   cases h9 : inI c.cap 0 8
   ·rw [if_neg (by simp)]
    first | refine Cd.enter' Tryz.func36 rfl Tryz.ntmps36 rfl ?_ | refine Cio.enter' Tryz.func36 rfl Tryz.ntmps36 rfl qM ?_ | refine C.enter' Tryz.func36 rfl Tryz.ntmps36 rfl qM ?_
    repeat' (first | ((with_reducible refine kAL ?_); (first | (refine uK (inR_t ?zq0) ?_; (case zq0 => assumption)) | (refine uK (inR_f ?zq0) ?_; (case zq0 => assumption)) | refine uA ?_)) | refine uC ?_ | fail)
    all_goals first | (exfalso; omega) | (exact Fin.q Tryz.results36 (.cons (.tmp rfl) .nil) [])
   cases h10 : inI c.gens 1 4095
   ·rw [if_neg (by simp)]
    first | refine Cd.enter' Tryz.func36 rfl Tryz.ntmps36 rfl ?_ | refine Cio.enter' Tryz.func36 rfl Tryz.ntmps36 rfl qM ?_ | refine C.enter' Tryz.func36 rfl Tryz.ntmps36 rfl qM ?_
    repeat' (first | ((with_reducible refine kAL ?_); (first | (refine uK (inR_t ?zq0) ?_; (case zq0 => assumption)) | (refine uK (inR_f ?zq0) ?_; (case zq0 => assumption)) | refine uA ?_)) | refine uC ?_ | fail)
    all_goals first | (exfalso; omega) | (exact Fin.q Tryz.results36 (.cons (.tmp rfl) .nil) [])
   by_cases e1 : (c.start.length : Int) ≤ c.chans
   ·rw [decide_eq_true e1]
    simp only [Bool.true_and]
    first | refine Cd.enter' Tryz.func36 rfl Tryz.ntmps36 rfl ?_ | refine Cio.enter' Tryz.func36 rfl Tryz.ntmps36 rfl qM ?_ | refine C.enter' Tryz.func36 rfl Tryz.ntmps36 rfl qM ?_
    repeat' (first | ((with_reducible refine kAL ?_); (first | (refine uK (inR_t ?zq0) ?_; (case zq0 => assumption)) | refine uA ?_)) | refine uC ?_ | fail)
    all_goals first | (exfalso; omega) | skip
    refine AW.loopP (fun (i : Nat) => i ≤ c.start.length ∧ ∀ j, j < i → ∀ a, c.start[j]? = some a → inI a 0 c.cap = true) (fun (i : Nat) => (pu (pu (pu (pu (fun _ => .any) 1 (.ptr 0 0)) 97 (.ln (c.start.map tI))) 98 (i64 (c.start.map tI).length)) 99 (i64 i))) (fun (i : Nat) => [.box 24 [i64 c.kind, i64 c.threads, i64 c.chans, i64 c.cap, i64 c.nodes, i64 c.retire, i64 c.patience, i64 c.tags, i64 c.seqs, i64 c.gens, .ln (c.start.map tI)]]) (fun (i : Nat) => c.start.length - i) (0) ?_ ?_ ?_
    ·exact ⟨Nat.zero_le _, fun j hj => by omega⟩
    ·exact Wk.cq 1
    ·rintro i ⟨h2, h3⟩
     by_cases hi : i < c.start.length
     ·obtain ⟨a, ha⟩ : ∃ a, c.start[i]? = some a := ⟨_, List.getElem?_eq_getElem hi⟩
      cases hv : inI a 0 c.cap
      ·rw [show (c.start.any fun n => !inI n 0 c.cap) = true from List.any_eq_true.2 ⟨a, List.mem_of_getElem? ha, by rw [hv]; rfl⟩]
       repeat' (first | ((with_reducible refine kAL ?_); (first | refine uK (inR_f hv) ?_ | refine uA ?_)) | refine uC ?_ | fail)
       all_goals first | (exfalso; omega) | (exact Fin.q Tryz.results36 (.cons (.tmp rfl) .nil) [])
      ·repeat' (first | ((with_reducible refine kAL ?_); (first | refine uK (inR_t hv) ?_ | refine uA ?_)) | refine uC ?_ | fail)
       all_goals first | (exfalso; omega) | skip
       refine ⟨i + 1, ⟨by omega, fun j hj b hb => ?_⟩, by omega, ?_⟩
       ·by_cases e : j = i
        ·subst e; rw [ha] at hb; cases hb; exact hv
        ·exact h3 j (by omega) b hb
       ·exact Wk.cq 1
     ·rw [show (c.start.any fun n => !inI n 0 c.cap) = false from List.any_eq_false.2 fun a ha => by
       obtain ⟨j, hj⟩ := List.getElem?_of_mem ha
       rw [h3 j (by have := get_lt hj; omega) a hj]; decide]
      repeat' (first | refine uA ?_ | refine uC ?_ | fail)
      all_goals first | (exfalso; omega) | (exact Fin.q Tryz.results36 (.cons (.tmp rfl) .nil) [])
   ·rw [if_neg (by simp [e1])]
    first | refine Cd.enter' Tryz.func36 rfl Tryz.ntmps36 rfl ?_ | refine Cio.enter' Tryz.func36 rfl Tryz.ntmps36 rfl qM ?_ | refine C.enter' Tryz.func36 rfl Tryz.ntmps36 rfl qM ?_
    repeat' (first | ((with_reducible refine kAL ?_); (first | (refine uK (inR_t ?zq0) ?_; (case zq0 => assumption)) | refine uA ?_)) | refine uC ?_ | fail)
    all_goals first | (exfalso; omega) | (exact Fin.q Tryz.results36 (.cons (.tmp rfl) .nil) [])
  ·rw [if_neg k3, if_neg (by decide)]
   first | refine Cd.enter' Tryz.func36 rfl Tryz.ntmps36 rfl ?_ | refine Cio.enter' Tryz.func36 rfl Tryz.ntmps36 rfl qM ?_ | refine C.enter' Tryz.func36 rfl Tryz.ntmps36 rfl qM ?_
   repeat' (first | ((with_reducible refine kAL ?_); (first | (refine uK (inR_t ?zq0) ?_; (case zq0 => assumption)) | refine uA ?_)) | refine uC ?_ | fail)
   all_goals first | (exfalso; omega) | (exact Fin.q Tryz.results36 (.cons (.tmp rfl) .nil) [])
theorem rstate_c (c : DConf) (hs : c.start.length ≤ 1152921504606846976) : Cd Tryz.prog 37 [aCf c] (i64 (stateC c)) [] := by
 have c1 := rchk_c c hs
 unfold stateC
 cases hk : chkC c
 ·rw [hk] at c1
  refine Cd.enter' Tryz.func37 rfl Tryz.ntmps37 rfl ?_
  repeat' (first | ((with_reducible refine kAL ?_); (first | refine uK (c1) ?_ | refine uA ?_)) | refine uC ?_ | fail)
  all_goals first | (exfalso; omega) | (exact Fin.q Tryz.results37 (.cons (.tmp rfl) .nil) [])
 ·rw [hk] at c1
  have S := chkC_shaped hk
  have b1 := S.t0
  have b2 := S.t1
  rw [if_pos rfl]
  by_cases k : c.kind = 3
  ·rw [if_pos k]
   have h3 := S.h3 k
   have hp := mulB (a := c.chans) (b := c.cap) (x := 8) (y := 8) (by omega) (by omega) (by omega) (by omega)
   have e : 1 + c.chans * (1 + c.cap) + c.threads * 4 = 1 + c.chans + c.chans * c.cap + 4 * c.threads := by rw [Int.mul_add]; omega
   rw [e]
   refine Cd.enter' Tryz.func37 rfl Tryz.ntmps37 rfl ?_
   repeat' (first | ((with_reducible refine kAL ?_); (first | refine uK (c1) ?_ | refine uA ?_)) | refine uC ?_ | fail)
   all_goals first | (exfalso; omega) | (exact Fin.q Tryz.results37 (.cons (.tmp rfl) .nil) [])
  ·rw [if_neg k]
   have h1 := S.h1 k
   rw [Int.add_comm 1]
   refine Cd.enter' Tryz.func37 rfl Tryz.ntmps37 rfl ?_
   repeat' (first | ((with_reducible refine kAL ?_); (first | refine uK (c1) ?_ | refine uA ?_)) | refine uC ?_ | fail)
   all_goals first | (exfalso; omega) | (exact Fin.q Tryz.results37 (.cons (.tmp rfl) .nil) [])
theorem rsize_c (c : DConf) (hs : c.start.length ≤ 1152921504606846976) : Cd Tryz.prog 14 [aCf c] (i64 (sizeC c)) [] := by
 have c1 := rchk_c c hs
 have c2 := rstate_c c hs
 unfold sizeC
 cases hk : chkC c
 ·rw [hk] at c1
  refine Cd.enter' Tryz.func14 rfl Tryz.ntmps14 rfl ?_
  repeat' (first | ((with_reducible refine kAL ?_); (first | refine uK (c1) ?_ | refine uA ?_)) | refine uC ?_ | fail)
  all_goals first | (exfalso; omega) | (exact Fin.q Tryz.results14 (.cons (.tmp rfl) .nil) [])
 ·rw [hk] at c1
  have b0 := stateC_b hk
  have S := chkC_shaped hk
  have b1 := S.t0
  have b2 := S.t1
  rw [if_pos rfl]
  refine Cd.enter' Tryz.func14 rfl Tryz.ntmps14 rfl ?_
  repeat' (first | ((with_reducible refine kAL ?_); (first | refine uK (c1) ?_ | refine uA ?_)) | ((with_reducible refine kRG ?_); (first | refine uQ (c2) 0 ?_ | refine uR ?_)) | refine uC ?_ | refine AW.drawU (id := 3) mixed 0 qR ?_ | fail)
  all_goals first | (exfalso; omega) | (exact Fin.q Tryz.results14 (.cons (.tmp rfl) .nil) [])
end
section
attribute [local irreducible] AL AW RG Fin C Cd Cio thenQ blockQ retQ
set_option maxRecDepth 100000
def doneL (c : DConf) (l : List Int) (t : Int) : Int := if chkC c = true ∧ (0 ≤ t ∧ t < c.threads) ∧ stateC c + t < l.length then l.getD (stateC c + t).toNat 0 else 0
theorem done1_o (c : DConf) (hs : c.start.length ≤ 1152921504606846976) (l : List Int) (t : Int) (hl : l.length ≤ 1152921504606846976) : Cd Tryz.prog 9 [aCf c, .ln (l.map tU), i64 t] (u64 (doneL c l t)) [] := by
 have c1 := check_c c hs
 have c2 := state_c c hs
 have h1 : (l.map tU).length = l.length := List.length_map _
 unfold doneL
 by_cases hA : chkC c = true ∧ (0 ≤ t ∧ t < c.threads) ∧ stateC c + t < l.length
 ·rw [if_pos hA]
  obtain ⟨h0, h2, h3⟩ := hA
  rw [h0] at c1
  have b := stateC_b h0
  have S := (chkC_shaped h0).t1
  generalize stateC c = z at *
  obtain ⟨a, ha⟩ : ∃ a, l[(z + t).toNat]? = some a := ⟨_, List.getElem?_eq_getElem (by omega)⟩
  rw [List.getD_eq_getElem?_getD, ha]
  refine Cd.enter' Tryz.func9 rfl Tryz.ntmps9 rfl ?_
  repeat' (first | ((with_reducible refine kAL ?_); (first | refine uK (c2) ?_ | refine uK (c1) ?_ | refine uA ?_)) | refine uC ?_ | fail)
  all_goals first | (exfalso; omega) | (exact Fin.q Tryz.results9 (.cons (.tmp rfl) .nil) [])
 ·rw [if_neg hA]
  have zb : 0 ≤ stateC c ∧ stateC c ≤ 329 := by
   cases hk : chkC c
   ·have e : stateC c = 0 := by unfold stateC; rw [hk]; rfl
    omega
   ·exact stateC_b hk
  cases h0 : chkC c
  ·rw [h0] at c1
   clear hA
   refine Cd.enter' Tryz.func9 rfl Tryz.ntmps9 rfl ?_
   repeat' (first | ((with_reducible refine kAL ?_); (first | refine uK (c2) ?_ | refine uK (c1) ?_ | refine uA ?_ | refine uS 14 (fun hb => ?_) (fun hb => ?_) | refine uS 20 (fun hb => ?_) (fun hb => ?_))) | refine uC ?_ | fail)
   all_goals first | (exfalso; omega) | (exact Fin.q Tryz.results9 (.cons (.tmp rfl) .nil) [])
  ·rw [h0] at c1
   have S := (chkC_shaped h0).t1
   have hB : ¬ ((0 ≤ t ∧ t < c.threads) ∧ stateC c + t < l.length) := fun h => hA ⟨h0, h⟩
   generalize stateC c = z at *
   by_cases ht : 0 ≤ t ∧ t < c.threads
   ·refine Cd.enter' Tryz.func9 rfl Tryz.ntmps9 rfl ?_
    repeat' (first | ((with_reducible refine kAL ?_); (first | refine uK (c2) ?_ | refine uK (c1) ?_ | refine uA ?_)) | refine uC ?_ | fail)
    all_goals first | (exfalso; omega) | (exact Fin.q Tryz.results9 (.cons (.tmp rfl) .nil) [])
   ·by_cases h0 : t < 0
    ·refine Cd.enter' Tryz.func9 rfl Tryz.ntmps9 rfl ?_
     repeat' (first | ((with_reducible refine kAL ?_); (first | refine uK (c2) ?_ | refine uA ?_)) | refine uC ?_ | fail)
     all_goals first | (exfalso; omega) | (exact Fin.q Tryz.results9 (.cons (.tmp rfl) .nil) [])
    ·refine Cd.enter' Tryz.func9 rfl Tryz.ntmps9 rfl ?_
     repeat' (first | ((with_reducible refine kAL ?_); (first | refine uK (c2) ?_ | refine uA ?_)) | refine uC ?_ | fail)
     all_goals first | (exfalso; omega) | (exact Fin.q Tryz.results9 (.cons (.tmp rfl) .nil) [])
theorem rdone_o (c : DConf) (hs : c.start.length ≤ 1152921504606846976) (l : List Int) (t : Int) (hl : l.length ≤ 1152921504606846976) : Cd Tryz.prog 10 [aCf c, .ln (l.map tU), i64 t] (u64 (doneL c l t)) [] := by
 have c1 := rchk_c c hs
 have c2 := rstate_c c hs
 have h1 : (l.map tU).length = l.length := List.length_map _
 unfold doneL
 by_cases hA : chkC c = true ∧ (0 ≤ t ∧ t < c.threads) ∧ stateC c + t < l.length
 ·rw [if_pos hA]
  obtain ⟨h0, h2, h3⟩ := hA
  rw [h0] at c1
  have b := stateC_b h0
  have S := (chkC_shaped h0).t1
  generalize stateC c = z at *
  obtain ⟨a, ha⟩ : ∃ a, l[(z + t).toNat]? = some a := ⟨_, List.getElem?_eq_getElem (by omega)⟩
  rw [List.getD_eq_getElem?_getD, ha]
  refine Cd.enter' Tryz.func10 rfl Tryz.ntmps10 rfl ?_
  repeat' (first | ((with_reducible refine kAL ?_); (first | refine uK (c1) ?_ | refine uK (c2) ?_ | refine uA ?_)) | refine uC ?_ | fail)
  all_goals first | (exfalso; omega) | (exact Fin.q Tryz.results10 (.cons (.tmp rfl) .nil) [])
 ·rw [if_neg hA]
  have zb : 0 ≤ stateC c ∧ stateC c ≤ 329 := by
   cases hk : chkC c
   ·have e : stateC c = 0 := by unfold stateC; rw [hk]; rfl
    omega
   ·exact stateC_b hk
  cases h0 : chkC c
  ·rw [h0] at c1
   clear hA
   refine Cd.enter' Tryz.func10 rfl Tryz.ntmps10 rfl ?_
   repeat' (first | ((with_reducible refine kAL ?_); (first | refine uK (c1) ?_ | refine uA ?_)) | refine uC ?_ | fail)
   all_goals first | (exfalso; omega) | (exact Fin.q Tryz.results10 (.cons (.tmp rfl) .nil) [])
  ·rw [h0] at c1
   have S := (chkC_shaped h0).t1
   have hB : ¬ ((0 ≤ t ∧ t < c.threads) ∧ stateC c + t < l.length) := fun h => hA ⟨h0, h⟩
   generalize stateC c = z at *
   by_cases ht : 0 ≤ t ∧ t < c.threads
   ·refine Cd.enter' Tryz.func10 rfl Tryz.ntmps10 rfl ?_
    repeat' (first | ((with_reducible refine kAL ?_); (first | refine uK (c1) ?_ | refine uK (c2) ?_ | refine uA ?_)) | refine uC ?_ | fail)
    all_goals first | (exfalso; omega) | (exact Fin.q Tryz.results10 (.cons (.tmp rfl) .nil) [])
   ·by_cases h0 : t < 0
    ·refine Cd.enter' Tryz.func10 rfl Tryz.ntmps10 rfl ?_
     repeat' (first | ((with_reducible refine kAL ?_); (first | refine uK (c1) ?_ | refine uA ?_)) | refine uC ?_ | fail)
     all_goals first | (exfalso; omega) | (exact Fin.q Tryz.results10 (.cons (.tmp rfl) .nil) [])
    ·refine Cd.enter' Tryz.func10 rfl Tryz.ntmps10 rfl ?_
     repeat' (first | ((with_reducible refine kAL ?_); (first | refine uK (c1) ?_ | refine uA ?_)) | refine uC ?_ | fail)
     all_goals first | (exfalso; omega) | (exact Fin.q Tryz.results10 (.cons (.tmp rfl) .nil) [])
end
section
attribute [local irreducible] AL AW RG Fin C Cd Cio thenQ blockQ retQ
set_option maxRecDepth 100000
theorem clone_R (l : List Rst) (h : l.length ≤ 4398046511104) : Cd Tryz.prog 87 [.ln (l.map tR)] (.sl 0 0 l.length) [.row 0 42 4 (l.map tR)] := by
 refine Cd.enter' Tryz.func87 rfl Tryz.ntmps87 rfl ?_
 repeat' (first | ((with_reducible refine kAL ?_); (first | refine A_eqnil rfl rfl 47 _ _ rfl ud47 rfl (fun b hb => ?_) | refine uA ?_)) | refine uC ?_ | refine kcc rfl (fun hc => ?_) (fun hc => ?_) | fail)
 ·have hl : l = [] := by simpa using hb hc
  subst hl
  refine Fin.wk (Wk.own 2 rfl 42 4 (.push rfl rfl)) ?_
  exact Fin.q Tryz.results87 (.cons (.tmp rfl) .nil) [0]
 ·exact Fin.q Tryz.results87 (.cons (.tmp rfl) .nil) [0]
end
end Go.Proofs.YtbpgopomninedaaGreat
