/- Joined: XTSaneP, XTPlace, XTCloneR, XTHallA. -/
import Derived.Test.YtphcebioiipdpaaKPg
import Derived.Test.YtphcebioiipdpaaKPe
namespace Go.Proofs.Ytphcebioiipdpaa
set_option linter.unusedVariables false
set_option linter.unusedSimpArgs false
set_option linter.unnecessarySimpa false
open Go.RowKit
structure Dn (l : List DWait) (d : List Rst) : Prop where
  ln : d.length = l.length
  cd : ∀ (t : Nat) w r, l[t]? = some w → d[t]? = some r → (w.on = true ↔ r.code = 14) ∧ (w.on = true → r.seq = w.seq)
theorem Dn.cut {l : List DWait} {d : List Rst} (h : Dn l d) (t : Int) (r : Rst) (hr : r.code ≠ 14) : Dn (cutW l t) (noteL d t r) := by
  have hl := h.ln
  refine ⟨by rw [cutW_len, noteL_len, hl], fun j w s hw hs => ?_⟩
  by_cases ht : 0 ≤ t ∧ t < (l.length : Int)
  · obtain ⟨n, rfl⟩ : ∃ n : Nat, t = n := ⟨t.toNat, by omega⟩
    rw [noteL_in (by omega)] at hs
    by_cases e : n = j
    · subst e
      rw [List.getElem?_set_self (by omega)] at hs
      cases hs
      have hoff : w.on = false := by
        cases hc : cutOk l n
        · rw [cutW_no hc] at hw
          cases ho : w.on
          · rfl
          · rw [cutOk_yes hw ho] at hc; cases hc
        · rw [cutW_yes hc, List.getElem?_set_self (by omega)] at hw
          cases hw; rfl
      rw [hoff]
      exact ⟨⟨fun e => (by cases e), fun e => absurd e hr⟩, fun e => by cases e⟩
    · rw [List.getElem?_set_ne e] at hs
      have hw' : l[j]? = some w := by
        cases hc : cutOk l n
        · rw [cutW_no hc] at hw; exact hw
        · rw [cutW_yes hc, List.getElem?_set_ne e] at hw; exact hw
      exact h.cd j w s hw' hs
  · rw [noteL_out (by omega)] at hs
    rw [cutW_no (cutOk_out ht)] at hw
    exact h.cd j w s hw hs
theorem Dn.note {l : List DWait} {d : List Rst} (h : Dn l d) (t : Int) (r : Rst) (hr : r.code ≠ 14) (ho : ∀ w, l[t.toNat]? = some w → w.on = false) : Dn l (noteL d t r) := by
  have hl := h.ln
  refine ⟨by rw [noteL_len, hl], fun j w s hw hs => ?_⟩
  by_cases ht : 0 ≤ t ∧ t < (l.length : Int)
  · obtain ⟨n, rfl⟩ : ∃ n : Nat, t = n := ⟨t.toNat, by omega⟩
    rw [noteL_in (by omega)] at hs
    by_cases e : n = j
    · subst e
      rw [List.getElem?_set_self (by omega)] at hs
      cases hs
      rw [ho w (by rw [Int.toNat_natCast]; exact hw)]
      exact ⟨⟨fun e => (by cases e), fun e => absurd e hr⟩, fun e => by cases e⟩
    · rw [List.getElem?_set_ne e] at hs
      exact h.cd j w s hw hs
  · rw [noteL_out (by omega)] at hs
    exact h.cd j w s hw hs
theorem Dn.park {l : List DWait} {d : List Rst} (h : Dn l d) {n : Nat} (hn : n < l.length) (w : DWait) (r : Rst) (hw : w.on = true) (hr : r.code = 14) (hs : r.seq = w.seq) : Dn (l.set n w) (noteL d n r) := by
  have hl := h.ln
  refine ⟨by rw [noteL_len, List.length_set, hl], fun j x s hx hs' => ?_⟩
  rw [noteL_in (by omega)] at hs'
  by_cases e : n = j
  · subst e
    rw [List.getElem?_set_self (by omega)] at hs' hx
    cases hs'; cases hx
    exact ⟨⟨fun _ => hr, fun _ => hw⟩, fun _ => hs⟩
  · rw [List.getElem?_set_ne e] at hs' hx
    exact h.cd j x s hx hs'
theorem Dn.cuts (f : Int → Rst) (hf : ∀ t, (f t).code ≠ 14) (S : List Int) : ∀ {l : List DWait} {d : List Rst}, Dn l d → Dn (S.foldl cutW l) (tellL d (S.map fun t => ⟨t, f t⟩)) := by
  induction S with
  | nil => intro l d h; exact h
  | cons a S ih => intro l d h; exact ih (h.cut a (f a) (hf a))
theorem fnd_inj {h : DHall} {x y : Int} (hx : fndOk h x = true) (hy : fndOk h y = true) (e : fndP h x = fndP h y) : x = y := by
  obtain ⟨n, c, x1, x2, xc, xu, xg, x3, _⟩ := fnd_yes hx
  obtain ⟨m, d, y1, y2, yc, yu, yg, y3, _⟩ := fnd_yes hy
  have hnm : n = m := by omega
  subst hnm
  rw [xc] at yc; cases yc
  rw [← hdl_pl x1, ← hdl_pl y1, x2, y2, ← xg, ← yg]
theorem fnd_set {h h' : DHall} {n : Nat} {c c' : DChan} (hc : h.chans[n]? = some c) (h1 : h'.chans = h.chans.set n c') (hg : c'.gen = c.gen) (hu : c'.used = c.used) (x : Int) : fndOk h' x = fndOk h x ∧ fndP h' x = fndP h x := by
  have hl := get_lt hc
  have e : fndOk h' x = fndOk h x := by
    unfold fndOk chA
    rw [h1, List.length_set]
    by_cases e : n = (plP x).toNat
    · rw [← e, getD_of (List.getElem?_set_self hl), getD_of hc, hg, hu]
    · rw [List.getD_eq_getElem?_getD, List.getElem?_set_ne e, ← List.getD_eq_getElem?_getD]
  exact ⟨e, by unfold fndP; rw [e]⟩
theorem chA_set {h h' : DHall} {n : Nat} {c' : DChan} (hn : n < h.chans.length) (h1 : h'.chans = h.chans.set n c') (m : Nat) : chA h' (m : Int) = if m = n then c' else chA h (m : Int) := by
  unfold chA
  rw [h1, Int.toNat_natCast]
  by_cases e : m = n
  · subst e; rw [if_pos rfl, getD_of (List.getElem?_set_self hn)]
  · rw [if_neg e, List.getD_eq_getElem?_getD, List.getElem?_set_ne (Ne.symm e), ← List.getD_eq_getElem?_getD]
structure HRd (h : DHall) (t : Nat) (k : DCase) : Prop where
  op : (chA h (fndP h k.handle)).closed = false
  sd : k.dir = 1 → (chA h (fndP h k.handle)).cap ≤ ((chA h (fndP h k.handle)).buf.length : Int)
  rc : k.dir ≠ 1 → (chA h (fndP h k.handle)).buf = []
  no : ∀ (t' : Nat) w' k', t' ≠ t → h.waits[t']? = some w' → w'.on = true → k' ∈ w'.cases → k'.handle = k.handle → k'.dir + k.dir ≠ 3
structure Sn (h : DHall) : Prop where
  hd : ∀ w ∈ h.waits, ∀ k ∈ w.cases, fndOk h k.handle = true
  dr : ∀ w ∈ h.waits, ∀ k ∈ w.cases, k.dir = 1 ∨ k.dir = 2
  tk : ∀ w ∈ h.waits, w.on = true → 0 ≤ w.ticket ∧ w.ticket < h.ticket
  tn : ∀ (i j : Nat) w w', h.waits[i]? = some w → h.waits[j]? = some w' → w.on = true → w'.on = true → w.ticket = w'.ticket → i = j
  dn : Dn h.waits h.done
  rd : ∀ (t : Nat) w, h.waits[t]? = some w → w.on = true → ∀ k ∈ w.cases, HRd h t k
  ov : ∀ x ∈ h.chans, (x.buf.length : Int) ≤ x.cap ∧ (x.used = false → x.closed = false ∧ x.cap = 0) ∧ 0 ≤ x.gen ∧ (x.used = true → x.gen ≠ 0)
theorem cuts_sub {l : List DWait} (S : List Int) {t : Nat} {w : DWait} (h : (S.foldl cutW l)[t]? = some w) (ho : w.on = true) : l[t]? = some w := by
  rcases cuts_get S l t w h with e | e
  · rw [e] at ho; cases ho
  · exact e.1
theorem Sn.less {h h' : DHall} (s : Sn h) (q : Wq h'.waits) (hw : ∀ (t : Nat) w, h'.waits[t]? = some w → w.on = true → h.waits[t]? = some w) (htk : h'.ticket = h.ticket) (hdn : Dn h'.waits h'.done)
    (hov : ∀ x ∈ h'.chans, (x.buf.length : Int) ≤ x.cap ∧ (x.used = false → x.closed = false ∧ x.cap = 0) ∧ 0 ≤ x.gen ∧ (x.used = true → x.gen ≠ 0))
    (hch : ∀ (t : Nat) w, h'.waits[t]? = some w → w.on = true → ∀ k ∈ w.cases, fndOk h' k.handle = true ∧ (chA h' (fndP h' k.handle)).closed = false ∧ (k.dir = 1 → (chA h' (fndP h' k.handle)).cap ≤ ((chA h' (fndP h' k.handle)).buf.length : Int)) ∧ (k.dir ≠ 1 → (chA h' (fndP h' k.handle)).buf = [])) : Sn h' := by
  have on : ∀ w ∈ h'.waits, ∀ k ∈ w.cases, w.on = true := fun w hw k hk => by
    cases ho : w.on
    · rw [q.off w hw ho] at hk; simp [w0] at hk
    · rfl
  have old : ∀ w ∈ h'.waits, w.on = true → w ∈ h.waits := fun w hw' ho => by
    obtain ⟨t, ht⟩ := List.getElem?_of_mem hw'
    exact List.mem_of_getElem? (hw t w ht ho)
  refine ⟨fun w hw' k hk => ?_, fun w hw' k hk => s.dr w (old w hw' (on w hw' k hk)) k hk, fun w hw' ho => by rw [htk]; exact s.tk w (old w hw' ho) ho, fun i j w w' hi hj ho ho' e => s.tn i j w w' (hw i w hi ho) (hw j w' hj ho') ho ho' e, hdn, fun t w ht ho k hk => ?_, hov⟩
  · obtain ⟨t, ht⟩ := List.getElem?_of_mem hw'
    exact (hch t w ht (on w hw' k hk) k hk).1
  · obtain ⟨h1, h2, h3, h4⟩ := hch t w ht ho k hk
    exact ⟨h2, h3, h4, fun t' w' k' hne ht' ho' hk' e => (s.rd t w (hw t w ht ho) ho k hk).no t' w' k' hne (hw t' w' ht' ho') ho' hk' e⟩
theorem Sn.same {h : DHall} (s : Sn h) (q : Wq h.waits) {t : Int} {r : Rst} (hr : r.code ≠ 14) (ho : ∀ w, h.waits[t.toNat]? = some w → w.on = false) : Sn ⟨h.ticket, h.chans, h.waits, noteL h.done t r⟩ :=
  s.less (h' := ⟨h.ticket, h.chans, h.waits, noteL h.done t r⟩) q (fun _ _ h _ => h) rfl (s.dn.note t r hr ho) s.ov fun t' w ht ho' k hk =>
    ⟨s.hd w (List.mem_of_getElem? ht) k hk, (s.rd t' w ht ho' k hk).op, (s.rd t' w ht ho' k hk).sd, (s.rd t' w ht ho' k hk).rc⟩
theorem off_sub {l l' : List DWait} {t : Int} (hs : ∀ (j : Nat) w, l'[j]? = some w → w.on = true → l[j]? = some w) (ho : ∀ w, l[t.toNat]? = some w → w.on = false) : ∀ w, l'[t.toNat]? = some w → w.on = false := fun w hw => by
  cases h : w.on
  · rfl
  · rw [← h]; exact ho w (hs _ w hw h)
theorem cut_sub {l : List DWait} {t : Int} {j : Nat} {w : DWait} (h : (cutW l t)[j]? = some w) (ho : w.on = true) : l[j]? = some w := cuts_sub [t] h ho
theorem Sn.one {h : DHall} (s : Sn h) (q : Wq h.waits) {t n : Int} (ho : ∀ w, h.waits[t.toNat]? = some w → w.on = false) (which : Int) {k : DCase} (hf : fndOk h k.handle = true) (hr : rdyK h k = true) :
    Sn ⟨(oneH h which k).1.ticket, (oneH h which k).1.chans, (oneH h which k).1.waits, noteL (oneH h which k).1.done t ⟨n, (oneH h which k).2.cas, (oneH h which k).2.code, (oneH h which k).2.value⟩⟩ := by
  obtain ⟨p, c, _, _, hc, hu, hg, e3, e4, hpl⟩ := fnd_yes hf
  have hcm := s.ov c (List.mem_of_getElem? hc)
  unfold rdyK at hr
  unfold oneH gotH
  rw [e3, e4] at hr
  rw [e3, e4, Int.toNat_natCast]
  have hgen := doG_gen c k.handle h.waits k.dir k.value
  -- the channel behind it
  have key : ∀ c' : DChan, c'.gen = c.gen → c'.used = c.used → c'.closed = c.closed → c'.cap = c.cap → ∀ h' : DHall, h'.chans = h.chans.set p c' →
      (∀ (t : Nat) w, h'.waits[t]? = some w → w.on = true → h.waits[t]? = some w) →
      (∀ (t : Nat) w, h'.waits[t]? = some w → w.on = true → ∀ k' ∈ w.cases, k'.handle = k.handle → (k'.dir = 1 → c.cap ≤ (c.buf.length : Int) → c.cap ≤ (c'.buf.length : Int)) ∧ (k'.dir ≠ 1 → c.buf = [] → c'.buf = [])) →
      ∀ (t : Nat) w, h'.waits[t]? = some w → w.on = true → ∀ k' ∈ w.cases, fndOk h' k'.handle = true ∧ (chA h' (fndP h' k'.handle)).closed = false ∧ (k'.dir = 1 → (chA h' (fndP h' k'.handle)).cap ≤ ((chA h' (fndP h' k'.handle)).buf.length : Int)) ∧ (k'.dir ≠ 1 → (chA h' (fndP h' k'.handle)).buf = []) := by
    intro c' g1 g2 g3 g4 h' hch' hsub hbuf t' w ht' ho' k' hk'
    have hold := hsub t' w ht' ho'
    have R := s.rd t' w hold ho' k' hk'
    have hfo := s.hd w (List.mem_of_getElem? hold) k' hk'
    obtain ⟨f1, f2⟩ := fnd_set hc hch' g1 g2 k'.handle
    obtain ⟨m, c2, _, _, hc2, _, _, m3, m4, _⟩ := fnd_yes hfo
    rw [f1, f2, m3, chA_set hpl hch' m]
    have R1 := R.op; have R2 := R.sd; have R3 := R.rc
    rw [m3] at R1 R2 R3
    refine ⟨hfo, ?_⟩
    by_cases em : m = p
    · subst em
      rw [if_pos rfl, g3, g4]
      rw [e4] at R1 R2 R3
      have hb := hbuf t' w ht' ho' k' hk' (fnd_inj hfo hf (by rw [m3, e3]))
      exact ⟨R1, fun d => hb.1 d (R2 d), fun d => hb.2 d (R3 d)⟩
    · rw [if_neg em]; exact ⟨R1, R2, R3⟩
  have over : ∀ c' : DChan, c'.gen = c.gen → c'.used = c.used → c'.closed = c.closed → c'.cap = c.cap → (c'.buf.length : Int) ≤ c.cap → ∀ x ∈ h.chans.set p c', (x.buf.length : Int) ≤ x.cap ∧ (x.used = false → x.closed = false ∧ x.cap = 0) ∧ 0 ≤ x.gen ∧ (x.used = true → x.gen ≠ 0) := by
    intro c' g1 g2 g3 g4 hb x hx
    rcases List.mem_or_eq_of_mem_set hx with hx | rfl
    · exact s.ov x hx
    · rw [g1, g2, g3, g4]; exact ⟨hb, hcm.2⟩
  rcases rdy_d hr with hd | hd
  · -- a send
    unfold doG at hgen ⊢
    rw [if_pos hr, if_pos hd] at hgen ⊢
    cases hcl : c.closed
    · rw [hcl, if_neg (by simp)] at hgen
      rw [if_neg (by simp)]
      unfold sendG at hgen ⊢
      cases hk : (fir h.waits 2 k.handle).ok
      · -- into the buffer
        rw [hk, if_neg (by simp)] at hgen
        rw [if_neg (by simp)]
        have hroom : (c.buf.length : Int) < c.cap := by
          unfold rdyC at hr
          rw [if_pos hd, hcl, hk] at hr
          have h2 : c.used = true ∧ (c.buf.length : Int) < c.cap := by simpa using hr
          exact h2.2
        refine s.less (h' := ⟨_, _, _, _⟩) q (fun _ _ h _ => h) rfl (s.dn.note t _ (by first | decide | (dsimp only; decide)) ho) (over _ hgen.1 hgen.2.2.1 (hgen.2.2.2.trans hcl.symm) hgen.2.1 ?_) (key _ hgen.1 hgen.2.2.1 (hgen.2.2.2.trans hcl.symm) hgen.2.1 ⟨_, _, _, _⟩ rfl (fun _ _ h _ => h) ?_)
        · simp only [chB, List.length_append, List.length_singleton]; omega
        · intro t' w ht' ho' k' hk' e
          refine ⟨fun _ hf => ?_, fun hd' _ => ?_⟩
          · omega
          · exfalso
            have hw2 := List.mem_of_getElem? ht'
            have d2 : k'.dir = 2 := by rcases s.dr w hw2 k' hk' with e | e; exact absurd e hd'; exact e
            obtain ⟨j, hj⟩ := List.getElem?_of_mem hk'
            have := (fir_least ht' ho' hj d2 e).1
            rw [hk] at this; cases this
      · -- to one that waits
        rw [hk, if_pos rfl] at hgen
        rw [if_pos rfl]
        obtain ⟨t2, m, w, c2, f1, f2, hw, hon, hcc, f3, f4⟩ := fir_ok hk
        have hs0 : h.chans.set p c = h.chans := by obtain ⟨hq, e⟩ := List.getElem?_eq_some_iff.1 hc; rw [← e]; exact List.set_getElem_self hq
        refine s.less (h' := ⟨_, _, _, _⟩) (q.cut _) (fun _ _ h ho => cut_sub h ho) rfl ((s.dn.cut _ _ (by first | decide | (dsimp only; decide))).note t _ (by first | decide | (dsimp only; decide)) (off_sub (fun _ _ h ho => cut_sub h ho) ho)) (over _ rfl rfl rfl rfl hcm.1) (key _ rfl rfl rfl rfl ⟨_, _, _, _⟩ rfl (fun _ _ h ho => cut_sub h ho) ?_)
        exact fun _ _ _ _ _ _ _ => ⟨fun _ h => h, fun _ h => h⟩
    · rw [if_pos rfl]
      refine s.less (h' := ⟨_, _, _, _⟩) q (fun _ _ h _ => h) rfl (s.dn.note t _ (by first | decide | (dsimp only; decide)) ho) (over _ rfl rfl rfl rfl hcm.1) (key _ rfl rfl rfl rfl ⟨_, _, _, _⟩ rfl (fun _ _ h _ => h) ?_)
      exact fun _ _ _ _ _ _ _ => ⟨fun _ h => h, fun _ h => h⟩
  · -- a receive
    unfold doG at hgen ⊢
    rw [if_pos hr, if_neg (by omega)] at hgen ⊢
    cases hp : (decide (0 < (c.buf.length : Int)) || (fir h.waits 1 k.handle).ok)
    · rw [if_neg (by simp)]
      refine s.less (h' := ⟨_, _, _, _⟩) q (fun _ _ h _ => h) rfl (s.dn.note t _ (by first | decide | (dsimp only; decide)) ho) (over _ rfl rfl rfl rfl hcm.1) (key _ rfl rfl rfl rfl ⟨_, _, _, _⟩ rfl (fun _ _ h _ => h) ?_)
      exact fun _ _ _ _ _ _ _ => ⟨fun _ h => h, fun _ h => h⟩
    · rw [hp, if_pos rfl] at hgen
      rw [if_pos rfl]
      unfold recvG at hgen ⊢
      cases hk : (fir h.waits 1 k.handle).ok
      · rw [hk, if_neg (by simp)] at hgen
        rw [if_neg (by simp)]
        have hbuf : 0 < c.buf.length := by rw [hk, Bool.or_false] at hp; have := of_decide_eq_true hp; omega
        refine s.less (h' := ⟨_, _, _, _⟩) q (fun _ _ h _ => h) rfl (s.dn.note t _ (by first | decide | (dsimp only; decide)) ho) (over _ hgen.1 hgen.2.2.1 hgen.2.2.2 hgen.2.1 ?_) (key _ hgen.1 hgen.2.2.1 hgen.2.2.2 hgen.2.1 ⟨_, _, _, _⟩ rfl (fun _ _ h _ => h) ?_)
        · simp only [chB, List.length_drop]; omega
        · intro t' w ht' ho' k' hk' e
          refine ⟨fun d1 _ => ?_, fun _ hb => ?_⟩
          · exfalso
            obtain ⟨j, hj⟩ := List.getElem?_of_mem hk'
            have := (fir_least ht' ho' hj d1 e).1
            rw [hk] at this; cases this
          · rw [hb] at hbuf; exact absurd hbuf (by first | decide | (dsimp only; decide))
      · rw [hk, if_pos rfl] at hgen
        rw [if_pos rfl]
        have hlen : ((c.buf ++ [thV h.waits (fir h.waits 1 k.handle)]).drop 1).length = c.buf.length := by simp
        refine s.less (h' := ⟨_, _, _, _⟩) (q.cut _) (fun _ _ h ho => cut_sub h ho) rfl ((s.dn.cut _ _ (by first | decide | (dsimp only; decide))).note t _ (by first | decide | (dsimp only; decide)) (off_sub (fun _ _ h ho => cut_sub h ho) ho)) (over _ hgen.1 hgen.2.2.1 hgen.2.2.2 hgen.2.1 ?_) (key _ hgen.1 hgen.2.2.1 hgen.2.2.2 hgen.2.1 ⟨_, _, _, _⟩ rfl (fun _ _ h ho => cut_sub h ho) ?_)
        · dsimp only [chB]; rw [hlen]; exact hcm.1
        · intro t' w ht' ho' k' hk' e
          refine ⟨fun _ h => by dsimp only [chB]; rw [hlen]; exact h, fun _ hb => ?_⟩
          dsimp only [chB]
          exact List.eq_nil_of_length_eq_zero (by rw [hlen, hb]; rfl)
theorem rdy_no {c : DChan} {x : Int} {l : List DWait} {d : Int} (hr : rdyC c x l d = false) (hu : c.used = true) (hd : d = 1 ∨ d = 2) : c.closed = false ∧ (fir l (3 - d) x).ok = false ∧ (d = 1 → c.cap ≤ (c.buf.length : Int)) ∧ (d ≠ 1 → c.buf = []) := by
  unfold rdyC at hr
  rw [hu, Bool.true_and] at hr
  rcases hd with rfl | rfl
  · rw [if_pos rfl] at hr
    simp only [Bool.or_eq_false_iff, decide_eq_false_iff_not] at hr
    exact ⟨hr.1.1, hr.1.2, fun _ => by omega, fun e => absurd rfl e⟩
  · rw [if_neg (by first | decide | (dsimp only; decide)), if_pos rfl] at hr
    simp only [Bool.or_eq_false_iff, decide_eq_false_iff_not] at hr
    exact ⟨hr.1.1, hr.1.2, fun e => by omega, fun _ => List.eq_nil_of_length_eq_zero (by omega)⟩
theorem rdyK_no {h : DHall} {k : DCase} (hr : rdyK h k = false) (hf : fndOk h k.handle = true) (hd : k.dir = 1 ∨ k.dir = 2) : (chA h (fndP h k.handle)).closed = false ∧ (fir h.waits (3 - k.dir) k.handle).ok = false ∧ (k.dir = 1 → (chA h (fndP h k.handle)).cap ≤ ((chA h (fndP h k.handle)).buf.length : Int)) ∧ (k.dir ≠ 1 → (chA h (fndP h k.handle)).buf = []) := by
  obtain ⟨p, c, _, _, hc, hu, hg, e3, e4, hpl⟩ := fnd_yes hf
  unfold rdyK at hr
  rw [e3, e4] at hr ⊢
  exact rdy_no hr hu hd
theorem Sn.park {h : DHall} (s : Sn h) (htk : 0 ≤ h.ticket) {j : Nat} (hj : j < h.waits.length) {w : DWait} (hw : h.waits[j]? = some w) (ho : w.on = false) (n : Int) (cs : List DCase) (hf : ∀ k ∈ cs, fndOk h k.handle = true) (hb : ∀ k ∈ cs, badK k = false) (hr : ∀ k ∈ cs, rdyK h k = false) :
    Sn ⟨h.ticket + 1, h.chans, h.waits.set j ⟨true, h.ticket, n, cs⟩, noteL h.done j ⟨n, 0, 14, 0⟩⟩ := by
  have hdir : ∀ k ∈ cs, k.dir = 1 ∨ k.dir = 2 := fun k hk => by
    have := hb k hk
    unfold badK at this
    have := of_decide_eq_false this
    omega
  have new : ∀ (t : Nat) (v : DWait), (h.waits.set j ⟨true, h.ticket, n, cs⟩)[t]? = some v → (t = j ∧ v = ⟨true, h.ticket, n, cs⟩) ∨ (t ≠ j ∧ h.waits[t]? = some v) := fun t v hv => by
    by_cases e : t = j
    · subst e; rw [List.getElem?_set_self hj] at hv; cases hv; exact .inl ⟨rfl, rfl⟩
    · rw [List.getElem?_set_ne (Ne.symm e)] at hv; exact .inr ⟨e, hv⟩
  have mem : ∀ v ∈ h.waits.set j ⟨true, h.ticket, n, cs⟩, v = ⟨true, h.ticket, n, cs⟩ ∨ v ∈ h.waits := fun v hv => by
    rcases List.mem_or_eq_of_mem_set hv with e | e
    · exact .inr e
    · exact .inl e
  have fk : ∀ x, fndOk ⟨h.ticket + 1, h.chans, h.waits.set j ⟨true, h.ticket, n, cs⟩, noteL h.done j ⟨n, 0, 14, 0⟩⟩ x = fndOk h x := fun _ => rfl
  refine ⟨fun v hv k hk => ?_, fun v hv k hk => ?_, fun v hv hon => ?_, fun a b v v' ha hb' h1 h2 e => ?_, s.dn.park hj _ _ rfl rfl rfl, fun t v hv hon k hk => ?_, s.ov⟩
  · rcases mem v hv with rfl | hv
    · exact hf k hk
    · exact s.hd v hv k hk
  · rcases mem v hv with rfl | hv
    · exact hdir k hk
    · exact s.dr v hv k hk
  · dsimp only
    rcases mem v hv with rfl | hv
    · dsimp only; omega
    · have := s.tk v hv hon; omega
  · dsimp only at ha hb'
    rcases new a v ha with ⟨rfl, rfl⟩ | ⟨ea, ha2⟩ <;> rcases new b v' hb' with ⟨rfl, rfl⟩ | ⟨eb, hb2⟩
    · rfl
    · have := s.tk v' (List.mem_of_getElem? hb2) h2; dsimp only at e; omega
    · have := s.tk v (List.mem_of_getElem? ha2) h1; dsimp only at e; omega
    · exact s.tn a b v v' ha2 hb2 h1 h2 e
  · dsimp only at hv
    rcases new t v hv with ⟨rfl, rfl⟩ | ⟨et, hv2⟩
    · obtain ⟨r1, r2, r3, r4⟩ := rdyK_no (hr k hk) (hf k hk) (hdir k hk)
      refine ⟨r1, r3, r4, fun t' w' k' hne ht' ho' hk' e1 e2 => ?_⟩
      dsimp only at ht'
      rcases new t' w' ht' with ⟨rfl, rfl⟩ | ⟨_, ht'⟩
      · exact hne rfl
      · obtain ⟨q, hq⟩ := List.getElem?_of_mem hk'
        have := (fir_least ht' ho' hq (by omega : k'.dir = 3 - k.dir) e1).1
        rw [r2] at this; cases this
    · have R := s.rd t v hv2 hon k hk
      refine ⟨R.op, R.sd, R.rc, fun t' w' k' hne ht' ho' hk' e1 e2 => ?_⟩
      dsimp only at ht'
      rcases new t' w' ht' with ⟨rfl, rfl⟩ | ⟨_, ht'⟩
      · obtain ⟨r1, r2, r3, r4⟩ := rdyK_no (hr k' hk') (hf k' hk') (hdir k' hk')
        obtain ⟨q, hq⟩ := List.getElem?_of_mem hk
        have := (fir_least hv2 hon hq (by omega : k.dir = 3 - k'.dir) e1.symm).1
        rw [r2] at this; cases this
      · exact R.no t' w' k' hne ht' ho' hk' e1 e2
theorem onS_none {l : List DWait} {x : Int} (h : onS l x = []) : noneW l x := by have := shut_none l x; rw [h] at this; exact this
theorem Sn.apply {c : DConf} {h : DHall} (s : Sn h) (q : Wq h.waits) (htk : 0 ≤ h.ticket) {j : Nat} (hj : j < h.waits.length) {w : DWait} (hw : h.waits[j]? = some w) (hoff : w.on = false) (n : Int) (r : DReq) : Sn (applyH c h j n r) := by
  have ho : ∀ v, h.waits[((j : Nat) : Int).toNat]? = some v → v.on = false := fun v hv => by rw [Int.toNat_natCast, hw] at hv; cases hv; exact hoff
  have stay : ∀ x : Rst, x.code ≠ 14 → Sn ⟨h.ticket, h.chans, h.waits, noteL h.done j x⟩ := fun x hx => s.same q hx ho
  unfold applyH
  have setov : ∀ (p : Nat) (c' : DChan), ((c'.buf.length : Int) ≤ c'.cap ∧ (c'.used = false → c'.closed = false ∧ c'.cap = 0) ∧ 0 ≤ c'.gen ∧ (c'.used = true → c'.gen ≠ 0)) → ∀ x ∈ h.chans.set p c', (x.buf.length : Int) ≤ x.cap ∧ (x.used = false → x.closed = false ∧ x.cap = 0) ∧ 0 ≤ x.gen ∧ (x.used = true → x.gen ≠ 0) := fun p c' hc' x hx => by
    rcases List.mem_or_eq_of_mem_set hx with hx | rfl
    · exact s.ov x hx
    · exact hc'
  unfold callH
  split
  · -- a channel is made
    unfold openH; split
    · exact stay _ (by first | decide | (dsimp only; decide))
    · rename_i hcap
      split
      · rename_i h0
        obtain ⟨a, ha, hp⟩ := ixF_get (okO c) h.chans h0
        obtain ⟨p, hpp⟩ : ∃ p : Nat, ixF (okO c) h.chans = p := ⟨(ixF (okO c) h.chans).toNat, by omega⟩
        rw [hpp, Int.toNat_natCast] at ha
        have hl := get_lt ha
        have hA : chA h (p : Int) = a := by unfold chA; rw [Int.toNat_natCast, getD_of ha]
        have hau : a.used = false := by unfold okO at hp; simp only [Bool.and_eq_true, Bool.not_eq_true'] at hp; exact hp.1
        have hov := s.ov a (List.mem_of_getElem? ha)
        rw [hpp, hA, Int.toNat_natCast]
        refine s.less (h' := ⟨_, _, _, _⟩) q (fun _ _ h _ => h) rfl (s.dn.note j _ (by first | decide | (dsimp only; decide)) ho) (setov p _ ⟨by dsimp only [List.length_nil]; omega, fun e => (by cases e), by dsimp only; omega, fun _ => by dsimp only; omega⟩) fun t v hv hon k hk => ?_
        have R := s.rd t v hv hon k hk
        have hf := s.hd v (List.mem_of_getElem? hv) k hk
        obtain ⟨m, c2, m1, m2, hc2, hu2, hg2, m3, m4, hml⟩ := fnd_yes hf
        have hne : m ≠ p := fun e => by subst e; rw [ha] at hc2; cases hc2; rw [hau] at hu2; cases hu2
        have hcg : (cH h (h.chans.set p ⟨a.gen + 1, r.arg, true, false, []⟩)).chans[m]? = some c2 := by show (h.chans.set p _)[m]? = _; rw [List.getElem?_set_ne (Ne.symm hne)]; exact hc2
        have hf' : ∀ h' : DHall, h'.chans = h.chans.set p ⟨a.gen + 1, r.arg, true, false, []⟩ → fndOk h' k.handle = true ∧ (chA h' (fndP h' k.handle)).closed = false ∧ (k.dir = 1 → (chA h' (fndP h' k.handle)).cap ≤ ((chA h' (fndP h' k.handle)).buf.length : Int)) ∧ (k.dir ≠ 1 → (chA h' (fndP h' k.handle)).buf = []) := fun h' e => by
          have hg' : h'.chans[m]? = some c2 := by rw [e]; exact hcg
          have hcA : chA h' (m : Int) = c2 := by unfold chA; rw [Int.toNat_natCast, getD_of hg']
          have hfo : fndOk h' k.handle = true := by
            unfold fndOk
            rw [m1, m2, hcA, hu2, hg2, decide_eq_true (by have := get_lt hg'; omega), decide_eq_true rfl]; rfl
          refine ⟨hfo, ?_⟩
          rw [show fndP h' k.handle = m from by unfold fndP; rw [if_pos hfo, m2], hcA]
          have R1 := R.op; have R2 := R.sd; have R3 := R.rc
          rw [m3, m4] at R1 R2 R3
          exact ⟨R1, R2, R3⟩
        exact hf' _ rfl
      · split
        · exact stay _ (by first | decide | (dsimp only; decide))
        · exact stay _ (by first | decide | (dsimp only; decide))
  · split
    · -- a channel is freed
      unfold freeH; split
      · rename_i hf
        obtain ⟨p, c0, p1, p2, hc, hu, hg, e3, e4, hpl⟩ := fnd_yes hf
        rw [e3, e4]
        split
        · rename_i hi
          unfold idleC at hi
          simp only [Bool.and_eq_true, decide_eq_true_eq] at hi
          have hn := onS_none hi.2
          have hov := s.ov c0 (List.mem_of_getElem? hc)
          rw [Int.toNat_natCast]
          refine s.less (h' := ⟨_, _, _, _⟩) q (fun _ _ h _ => h) rfl (s.dn.note j _ (by first | decide | (dsimp only; decide)) ho) (setov p _ ⟨by simp, fun _ => ⟨rfl, rfl⟩, hov.2.2.1, fun e => by cases e⟩) fun t v hv hon k hk => ?_
          have R := s.rd t v hv hon k hk
          have hf2 := s.hd v (List.mem_of_getElem? hv) k hk
          obtain ⟨m, c2, m1, m2, hc2, hu2, hg2, m3, m4, hml⟩ := fnd_yes hf2
          have hne : m ≠ p := fun e => hn t v hv hon k hk (fnd_inj hf2 hf (by rw [m3, e3, e]))
          have hf' : ∀ h' : DHall, h'.chans = h.chans.set p ⟨c0.gen, 0, false, false, []⟩ → fndOk h' k.handle = true ∧ (chA h' (fndP h' k.handle)).closed = false ∧ (k.dir = 1 → (chA h' (fndP h' k.handle)).cap ≤ ((chA h' (fndP h' k.handle)).buf.length : Int)) ∧ (k.dir ≠ 1 → (chA h' (fndP h' k.handle)).buf = []) := fun h' e => by
            have hg' : h'.chans[m]? = some c2 := by rw [e, List.getElem?_set_ne (Ne.symm hne)]; exact hc2
            have hcA : chA h' (m : Int) = c2 := by unfold chA; rw [Int.toNat_natCast, getD_of hg']
            have hfo : fndOk h' k.handle = true := by
              unfold fndOk
              rw [m1, m2, hcA, hu2, hg2, decide_eq_true (by have := get_lt hg'; omega), decide_eq_true rfl]; rfl
            refine ⟨hfo, ?_⟩
            rw [show fndP h' k.handle = m from by unfold fndP; rw [if_pos hfo, m2], hcA]
            have R1 := R.op; have R2 := R.sd; have R3 := R.rc
            rw [m3, m4] at R1 R2 R3
            exact ⟨R1, R2, R3⟩
          exact hf' _ rfl
        · exact stay _ (by first | decide | (dsimp only; decide))
      · exact stay _ (by first | decide | (dsimp only; decide))
    · split
      · -- a select
        unfold chooseH; split
        · rename_i hE
          refine stay _ ?_
          dsimp only
          have : casesE h r.cases = 0 ∨ casesE h r.cases = 1 ∨ casesE h r.cases = 8 := by
            unfold casesE
            repeat' split
            all_goals first | exact .inl rfl | exact .inr (.inl rfl) | exact .inr (.inr rfl)
          omega
        · rename_i hE
          obtain ⟨h3, h3', h4, h5⟩ := casesE_0 (Decidable.not_not.1 hE)
          split
          · rename_i h0
            have hm := ixF_mem (d := (default : DCase)) h0
            exact s.one q ho _ (h5 _ hm.1) hm.2
          · rename_i h0
            split
            · exact stay _ (by first | decide | (dsimp only; decide))
            · split
              · exact stay _ (by first | decide | (dsimp only; decide))
              · rw [if_pos (putOk_yes hw hoff), putW_yes (putOk_yes hw hoff)]
                refine s.park htk hj hw hoff n r.cases h5 h4 fun k hk => ?_
                cases hr : rdyK h k
                · rfl
                · obtain ⟨i, hi⟩ := List.getElem?_of_mem hk
                  exact absurd (ixF_yes (rdyK h) hi hr) h0
      · split
        · -- a channel is closed
          unfold closeH; split
          · rename_i hf
            obtain ⟨p, c0, p1, p2, hc, hu, hg, e3, e4, hpl⟩ := fnd_yes hf
            have hov := s.ov c0 (List.mem_of_getElem? hc)
            rw [e3, e4, Int.toNat_natCast]
            unfold shutG
            split
            · rename_i hcl
              have hnn := shut_none h.waits r.arg
              refine s.less (h' := ⟨_, _, _, _⟩) (Wq.cuts _ q) (fun _ _ h ho => cuts_sub _ h ho) rfl ((s.dn.cuts (fun t => ⟨(h.waits.getD t.toNat default).seq, ixF (isH r.arg) (h.waits.getD t.toNat default).cases, 9, 0⟩) (fun _ => (by first | decide | (dsimp only; decide))) (onS h.waits r.arg)).note j _ (by first | decide | (dsimp only; decide)) (off_sub (fun _ _ h ho => cuts_sub _ h ho) ho)) (setov p _ ⟨hov.1, fun e => (by cases e), hov.2.2.1, fun _ => hov.2.2.2 hu⟩) fun t v hv hon k hk => ?_
              have hv' := cuts_sub _ hv hon
              have R := s.rd t v hv' hon k hk
              have hf2 := s.hd v (List.mem_of_getElem? hv') k hk
              obtain ⟨m, c2, m1, m2, hc2, hu2, hg2, m3, m4, hml⟩ := fnd_yes hf2
              have hne : m ≠ p := fun e => hnn t v hv hon k hk (fnd_inj hf2 hf (by rw [m3, e3, e]))
              have hf' : ∀ h' : DHall, h'.chans = h.chans.set p ⟨c0.gen, c0.cap, true, true, c0.buf⟩ → fndOk h' k.handle = true ∧ (chA h' (fndP h' k.handle)).closed = false ∧ (k.dir = 1 → (chA h' (fndP h' k.handle)).cap ≤ ((chA h' (fndP h' k.handle)).buf.length : Int)) ∧ (k.dir ≠ 1 → (chA h' (fndP h' k.handle)).buf = []) := fun h' e => by
                have hg' : h'.chans[m]? = some c2 := by rw [e, List.getElem?_set_ne (Ne.symm hne)]; exact hc2
                have hcA : chA h' (m : Int) = c2 := by unfold chA; rw [Int.toNat_natCast, getD_of hg']
                have hfo : fndOk h' k.handle = true := by
                  unfold fndOk
                  rw [m1, m2, hcA, hu2, hg2, decide_eq_true (by have := get_lt hg'; omega), decide_eq_true rfl]; rfl
                refine ⟨hfo, ?_⟩
                rw [show fndP h' k.handle = m from by unfold fndP; rw [if_pos hfo, m2], hcA]
                have R1 := R.op; have R2 := R.sd; have R3 := R.rc
                rw [m3, m4] at R1 R2 R3
                exact ⟨R1, R2, R3⟩
              exact hf' _ rfl
            · have hs0 : h.chans.set p c0 = h.chans := by obtain ⟨hq, e⟩ := List.getElem?_eq_some_iff.1 hc; rw [← e]; exact List.set_getElem_self hq
              dsimp only [tellL, List.foldl]
              rw [hs0]
              exact stay _ (by first | decide | (dsimp only; decide))
          · exact stay _ (by first | decide | (dsimp only; decide))
        · split
          · -- a look
            refine stay _ ?_
            dsimp only
            unfold lookH
            repeat' split
            all_goals (dsimp only; decide)
          · split
            · unfold cancelH; split
              · refine s.less (h' := ⟨_, _, _, _⟩) (q.cut _) (fun _ _ h ho => cut_sub h ho) rfl ((s.dn.cut _ _ (by first | decide | (dsimp only; decide))).note j _ (by first | decide | (dsimp only; decide)) (off_sub (fun _ _ h ho => cut_sub h ho) ho)) s.ov fun t v hv hon k hk => ?_
                have hv' := cut_sub hv hon
                have R := s.rd t v hv' hon k hk
                exact ⟨s.hd v (List.mem_of_getElem? hv') k hk, R.op, R.sd, R.rc⟩
              · exact stay _ (by first | decide | (dsimp only; decide))
            · exact stay _ (by first | decide | (dsimp only; decide))
end Go.Proofs.Ytphcebioiipdpaa


namespace Go.Proofs.Ytphcebioiipdpaa
set_option linter.unusedVariables false
set_option linter.unusedSimpArgs false
set_option linter.unnecessarySimpa false
open Go.RowKit
set_option maxHeartbeats 32000000
attribute [local irreducible] AL AW RG Fin C Cd Cio thenQ blockQ retQ
set_option maxRecDepth 100000
theorem hplace_c (h : Int) (h1 : -9223372036854775808 ≤ h ∧ h ≤ 9223372036854775807) : Cd Try.prog 42 [i64 h] (.tup [i64 (plP h), i64 (plG h), bo (plOk h)]) [] := by
  by_cases hk : 8 ≤ h ∧ h ≤ 32767
  · rw [(pl_yes hk.1 hk.2).1, (pl_yes hk.1 hk.2).2.1, (pl_yes hk.1 hk.2).2.2]
    refine Cd.enter' Try.func42 rfl Try.ntmps42 rfl ?_
    repeat' (first | ((with_reducible refine kAL ?_); (first | refine A_as rfl rfl rfl rfl ?_ | refine A_mt rfl rfl rfl rfl ?_ | (refine kL 105 rfl ?_; (first | refine A_cmp (d := 6) rfl rfl (c := false) .lss 3 3 _ _ rfl rfl rfl (by exact congrArg some (decide_eq_false (by (try (dsimp only; fail_if_success done)); omega))) ?_ | refine A_cmp (d := 9) rfl rfl (c := false) .geq 3 3 _ _ rfl rfl rfl (by exact congrArg some (decide_eq_false (by (try (dsimp only; fail_if_success done)); omega))) ?_ | refine A_rem rfl rfl 3 3 _ _ rfl rfl rfl (by decide) (by exact IntWalk.rem_in _ _ (by omega)) ?_ | refine A_quo rfl rfl 3 3 _ _ rfl rfl rfl (by decide) (by exact IntWalk.i64_quo _ _ (by omega)) ?_)) | refine A_pick rfl rfl _ _ _ rfl rfl rfl rfl rfl ?_ | refine AL.nil ?_)) | with_reducible refine AW.at_region _ ?_ | (with_reducible (first | refine wk0 ?_ | refine wk2 ?_ | refine wk9 ?_ | refine wkb ?_ | refine wkd ?_)) | refine kcf rfl ?_)
    all_goals first | (exfalso; omega) | (exact Fin.q Try.results42 (.cons (.tmp rfl) (.cons (.tmp rfl) (.cons (.tmp rfl) .nil))) [])
  · rw [(pl_no hk).1, (pl_no hk).2.1, (pl_no hk).2.2]
    refine Cd.enter' Try.func42 rfl Try.ntmps42 rfl ?_
    repeat' (first | ((with_reducible refine kAL ?_); (first | refine A_as rfl rfl rfl rfl ?_ | refine A_mt rfl rfl rfl rfl ?_ | (refine kL 105 rfl ?_; (first | refine A_cmp (d := 9) rfl rfl (c := true) .geq 3 3 _ _ rfl rfl rfl (by exact congrArg some (decide_eq_true (by (try (dsimp only; fail_if_success done)); omega))) ?_ | refine A_cmp (d := 6) rfl rfl .lss 3 3 _ _ rfl rfl rfl rfl ?_)) | refine A_pick rfl rfl _ _ _ rfl rfl rfl rfl rfl ?_ | refine AL.nil ?_ | refine AL.skip rfl rfl ?_ | (refine AL.split 7 rfl (fun hb => ?_) (fun hb => ?_) <;> (try simp only [decide_eq_true_eq, decide_eq_false_iff_not, Bool.not_eq_true', Bool.not_eq_false'] at hb) <;> (first | refine AL.skip rfl rfl ?_ | refine AL.need rfl ?_)))) | with_reducible refine AW.at_region _ ?_ | (with_reducible (first | refine wk0 ?_ | refine wk2 ?_ | refine wk3 ?_ | refine wk9 ?_ | refine wkb ?_)) | refine kct rfl ?_)
    all_goals first | (exfalso; omega) | (exact Fin.q Try.results42 (.cons (.tmp rfl) (.cons (.tmp rfl) (.cons (.tmp rfl) .nil))) [])
end Go.Proofs.Ytphcebioiipdpaa


namespace Go.Proofs.Ytphcebioiipdpaa
set_option linter.unusedVariables false
set_option linter.unusedSimpArgs false
set_option linter.unnecessarySimpa false
open Go.RowKit
set_option maxHeartbeats 32000000
attribute [local irreducible] AL AW RG Fin C Cd Cio thenQ blockQ retQ
set_option maxRecDepth 100000
theorem clone_R (l : List Rst) (h : l.length ≤ 4398046511104) : Cd Try.prog 51 [.ln (l.map tR)] (.sl 0 0 l.length) [.row 0 50 4 (l.map tR)] := by
  refine Cd.enter' Try.func51 rfl Try.ntmps51 rfl ?_
  repeat' (first | ((with_reducible refine kAL ?_); (first | (refine kL 1 rfl ?_; (first | refine A_move rfl rfl _ (.inr rfl) (y := .sl _ _ _) rfl ?_ | refine A_move rfl rfl _ (.inr rfl) (y := .nl) rfl ?_)) | refine A_move rfl rfl _ (.inl rfl) (y := .ln _) rfl ?_ | (refine kL 873 rfl ?_; (refine A_eqnil rfl rfl 27 _ _ rfl ud27 rfl (fun b hb => ?_))) | (refine kL 879 rfl ?_; refine A_lit0 rfl rfl 27 rfl ud27 inf50 ?_) | (refine kL 12 rfl ?_; (refine A_append_nl rfl rfl _ _ 27 rfl ud27 inf50 rfl rfl (by exact .ln (by exact each_map (fun _ => rfl))) qB qB (by ((try simp only [List.take_zero, List.take_succ_cons, List.drop_zero, List.drop_succ_cons, List.nil_append, List.cons_append, List.append_nil, List.length_cons, List.length_nil, List.set_cons_zero, List.set_cons_succ, List.map_cons, List.map_nil, List.take_nil, List.drop_nil, Nat.zero_add, Nat.add_zero, Nat.reduceAdd, Nat.reduceSub]); rfl)) (.push qL qN) qS ?_)) | refine AL.nil ?_)) | with_reducible refine AW.at_region _ ?_ | (with_reducible (first | refine wk0 ?_ | refine wk2 ?_ | refine wk3 ?_ | refine wk9 ?_ | refine wkb ?_ | refine wkd ?_)) | refine kcc rfl (fun hc => ?_) (fun hc => ?_))
  · have hl : l = [] := by simpa using hb hc
    subst hl
    refine Fin.wk (Wk.own 2 rfl 50 4 (.push rfl rfl)) ?_
    exact Fin.q Try.results51 (.cons (.tmp rfl) .nil) [0]
  · exact Fin.q Try.results51 (.cons (.tmp rfl) .nil) [0]
end Go.Proofs.Ytphcebioiipdpaa


namespace Go.Proofs.Ytphcebioiipdpaa
set_option linter.unusedVariables false
set_option linter.unusedSimpArgs false
set_option linter.unnecessarySimpa false
open Go.RowKit
set_option maxHeartbeats 32000000
attribute [local irreducible] AL AW RG Fin C Cd Cio thenQ blockQ retQ
set_option maxRecDepth 100000
theorem fnd_at {h : DHall} {x : Int} {n : Nat} {c : DChan} (h1 : plOk x = true) (h2 : plP x = n) (hc : h.chans[n]? = some c) : fndOk h x = (c.used && decide (c.gen = plG x)) ∧ fndP h x = if (c.used && decide (c.gen = plG x)) = true then (n : Int) else 0 := by
  have hl := get_lt hc
  have hg : chA h (n : Int) = c := by unfold chA; rw [Int.toNat_natCast, getD_of hc]
  have e : fndOk h x = (c.used && decide (c.gen = plG x)) := by unfold fndOk; rw [h1, h2, hg, decide_eq_true (by omega)]; simp
  exact ⟨e, by unfold fndP; rw [e, h2]⟩
theorem fnd_out {h : DHall} {x : Int} {n : Nat} (h2 : plP x = n) (hc : ¬ n < h.chans.length) : fndOk h x = false := by unfold fndOk; rw [h2, decide_eq_false (by omega)]; simp
theorem fnd_bad {h : DHall} {x : Int} (h1 : plOk x = false) : fndOk h x = false := by unfold fndOk; rw [h1]; simp
theorem plP_nat (x : Int) : ∃ n : Nat, plP x = n := by
  by_cases hk : 8 ≤ x ∧ x ≤ 32767
  · rw [(pl_yes hk.1 hk.2).1]; exact ⟨(x % 8).toNat, by omega⟩
  · rw [(pl_no hk).1]; exact ⟨0, rfl⟩
set_option maxHeartbeats 8000000 in
theorem find_c (h : DHall) (x : Int) (hx : sI x) (h0 : h.chans.length ≤ 2932031007402) : Cd Try.prog 19 [aHl h, i64 x] (.tup [i64 (fndP h x), bo (fndOk h x)]) [] := by
  have h1 : (h.chans.map tCh).length = h.chans.length := List.length_map _
  have cP := hplace_c x hx
  obtain ⟨n, hn⟩ := plP_nat x
  cases hp : plOk x
  · have e := fnd_bad (h := h) hp
    rw [e, fnd_no e]
    rw [hp, hn] at cP
    refine Cd.enter' Try.func19 rfl Try.ntmps19 rfl ?_
    repeat' (first | ((with_reducible refine kAL ?_); (first | refine A_box rfl rfl 29 _ rfl rfl (.push qL qN) ?_ | refine A_as rfl rfl rfl rfl ?_ | (refine kL 0 rfl ?_; (first | refine A_mt rfl rfl rfl rfl ?_ | refine A_move rfl rfl _ (.inl rfl) (y := .tup _) rfl ?_)) | (refine kL 1354 rfl ?_; refine A_cl rfl rfl Try.func42 rfl (cP) ?_) | (refine kL 18 rfl ?_; (first | refine A_extract rfl rfl _ 0 rfl rfl rfl ?_ | refine A_extract rfl rfl _ 1 rfl rfl rfl ?_ | refine A_extract rfl rfl _ 2 rfl rfl rfl ?_)) | refine A_not rfl rfl _ _ rfl rfl ?_ | (refine kL 19 rfl ?_; refine A_pkt rfl rfl _ _ _ rfl rfl rfl ?_) | refine AL.nil ?_ | refine AL.skip rfl rfl ?_)) | with_reducible refine AW.at_region _ ?_ | (with_reducible (first | refine wk0 ?_ | refine wk2 ?_ | refine wk3 ?_ | refine wk9 ?_ | refine wkb ?_)) | refine kct rfl ?_)
    all_goals first | (exfalso; omega) | (exact Fin.q Try.results19 (.cons (.tmp rfl) (.cons (.tmp rfl) .nil)) [])
  · by_cases hl : n < h.chans.length
    · obtain ⟨⟨g, cap, used, closed, buf⟩, hc⟩ : ∃ c, h.chans[n]? = some c := ⟨_, List.getElem?_eq_getElem hl⟩
      have e := fnd_at hp hn hc
      dsimp only at e
      rw [e.1, e.2]
      rw [hp, hn] at cP
      generalize plG x = pg at cP
      by_cases hg : g = pg
      · subst hg
        rw [decide_eq_true rfl]
        cases used
        all_goals
          refine Cd.enter' Try.func19 rfl Try.ntmps19 rfl ?_
          repeat' (first | ((with_reducible refine kAL ?_); (first | refine A_box rfl rfl 29 _ rfl rfl (.push qL qN) ?_ | refine A_as rfl rfl rfl rfl ?_ | (refine kL 0 rfl ?_; (first | refine A_mt rfl rfl rfl rfl ?_ | refine A_move rfl rfl _ (.inl rfl) (y := .tup _) rfl ?_)) | (refine kL 1354 rfl ?_; refine A_cl rfl rfl Try.func42 rfl (cP) ?_) | (refine kL 18 rfl ?_; (first | refine A_extract rfl rfl _ 0 rfl rfl rfl ?_ | refine A_extract rfl rfl _ 1 rfl rfl rfl ?_ | refine A_extract rfl rfl _ 2 rfl rfl rfl ?_)) | refine A_not rfl rfl _ _ rfl rfl ?_ | refine A_field rfl rfl 29 _ 1 rfl ud29 rfl inf25 (by decide) 1 rfl rfl ?_ | refine A_load rfl rfl 25 _ rfl ud25 rfl rfl rfl rfl ?_ | refine A_len rfl rfl 25 _ rfl ud25 rfl ?_ | (refine kL 105 rfl ?_; (first | refine A_cmp (d := 22) rfl rfl (c := false) .geq 3 3 _ _ rfl rfl rfl (by exact congrArg some (decide_eq_false (by (try (dsimp only; fail_if_success done)); omega))) ?_ | refine A_cmp (d := 41) rfl rfl (c := false) .neq 3 3 _ _ rfl rfl rfl (by exact congrArg some (decide_eq_false (by (try (dsimp only; fail_if_success done)); omega))) ?_)) | (refine kL 19 rfl ?_; (first | refine A_pkt rfl rfl _ _ _ rfl rfl rfl ?_ | refine A_pkf rfl rfl _ _ _ rfl rfl rfl ?_)) | (refine kL 806 rfl ?_; refine A_idx rfl rfl 25 _ _ rfl ud25 inf66 (by decide) (by exact .inl rfl) rfl (by omega) _ (by with_reducible exact Int.toNat_natCast _) (by exact map_get (by assumption)) rfl (cs' := [_, _, _, _, _]) rfl ?_) | (refine kL 2116 rfl ?_; (first | refine A_field rfl rfl 66 _ 2 rfl ud66 rfl inf4 (by decide) 2 rfl rfl ?_ | refine A_field rfl rfl 66 _ 0 rfl ud66 rfl inf3 (by decide) 0 rfl rfl ?_)) | refine A_load_lp rfl rfl 4 _ rfl ud4 rfl rfl rfl ?_ | refine A_load_lp rfl rfl 3 _ rfl ud3 rfl rfl rfl ?_ | refine AL.nil ?_ | refine AL.skip rfl rfl ?_)) | with_reducible refine AW.at_region _ ?_ | (with_reducible (first | refine wk0 ?_ | refine wk2 ?_ | refine wk3 ?_ | refine wk9 ?_ | refine wkb ?_ | refine wkd ?_)) | refine kct rfl ?_ | refine kcf rfl ?_)
          all_goals first | (exfalso; omega) | (exact Fin.q Try.results19 (.cons (.tmp rfl) (.cons (.tmp rfl) .nil)) [])
      · rw [decide_eq_false hg]
        cases used
        all_goals
          refine Cd.enter' Try.func19 rfl Try.ntmps19 rfl ?_
          repeat' (first | ((with_reducible refine kAL ?_); (first | refine A_box rfl rfl 29 _ rfl rfl (.push qL qN) ?_ | refine A_as rfl rfl rfl rfl ?_ | (refine kL 0 rfl ?_; (first | refine A_mt rfl rfl rfl rfl ?_ | refine A_move rfl rfl _ (.inl rfl) (y := .tup _) rfl ?_)) | (refine kL 1354 rfl ?_; refine A_cl rfl rfl Try.func42 rfl (cP) ?_) | (refine kL 18 rfl ?_; (first | refine A_extract rfl rfl _ 0 rfl rfl rfl ?_ | refine A_extract rfl rfl _ 1 rfl rfl rfl ?_ | refine A_extract rfl rfl _ 2 rfl rfl rfl ?_)) | refine A_not rfl rfl _ _ rfl rfl ?_ | refine A_field rfl rfl 29 _ 1 rfl ud29 rfl inf25 (by decide) 1 rfl rfl ?_ | refine A_load rfl rfl 25 _ rfl ud25 rfl rfl rfl rfl ?_ | refine A_len rfl rfl 25 _ rfl ud25 rfl ?_ | (refine kL 105 rfl ?_; (first | refine A_cmp (d := 22) rfl rfl (c := false) .geq 3 3 _ _ rfl rfl rfl (by exact congrArg some (decide_eq_false (by (try (dsimp only; fail_if_success done)); omega))) ?_ | refine A_cmp (d := 41) rfl rfl (c := true) .neq 3 3 _ _ rfl rfl rfl (by exact congrArg some (decide_eq_true (by (try (dsimp only; fail_if_success done)); omega))) ?_)) | (refine kL 19 rfl ?_; (first | refine A_pkt rfl rfl _ _ _ rfl rfl rfl ?_ | refine A_pkf rfl rfl _ _ _ rfl rfl rfl ?_)) | (refine kL 806 rfl ?_; refine A_idx rfl rfl 25 _ _ rfl ud25 inf66 (by decide) (by exact .inl rfl) rfl (by omega) _ (by with_reducible exact Int.toNat_natCast _) (by exact map_get (by assumption)) rfl (cs' := [_, _, _, _, _]) rfl ?_) | (refine kL 2116 rfl ?_; (first | refine A_field rfl rfl 66 _ 2 rfl ud66 rfl inf4 (by decide) 2 rfl rfl ?_ | refine A_field rfl rfl 66 _ 0 rfl ud66 rfl inf3 (by decide) 0 rfl rfl ?_)) | refine A_load_lp rfl rfl 4 _ rfl ud4 rfl rfl rfl ?_ | refine A_load_lp rfl rfl 3 _ rfl ud3 rfl rfl rfl ?_ | refine AL.nil ?_ | refine AL.skip rfl rfl ?_)) | with_reducible refine AW.at_region _ ?_ | (with_reducible (first | refine wk0 ?_ | refine wk2 ?_ | refine wk3 ?_ | refine wk9 ?_ | refine wkb ?_)) | refine kct rfl ?_)
          all_goals first | (exfalso; omega) | (exact Fin.q Try.results19 (.cons (.tmp rfl) (.cons (.tmp rfl) .nil)) [])
    · have e := fnd_out hn hl
      rw [e, fnd_no e]
      rw [hp, hn] at cP
      refine Cd.enter' Try.func19 rfl Try.ntmps19 rfl ?_
      repeat' (first | ((with_reducible refine kAL ?_); (first | refine A_box rfl rfl 29 _ rfl rfl (.push qL qN) ?_ | refine A_as rfl rfl rfl rfl ?_ | (refine kL 0 rfl ?_; (first | refine A_mt rfl rfl rfl rfl ?_ | refine A_move rfl rfl _ (.inl rfl) (y := .tup _) rfl ?_)) | (refine kL 1354 rfl ?_; refine A_cl rfl rfl Try.func42 rfl (cP) ?_) | (refine kL 18 rfl ?_; (first | refine A_extract rfl rfl _ 0 rfl rfl rfl ?_ | refine A_extract rfl rfl _ 1 rfl rfl rfl ?_ | refine A_extract rfl rfl _ 2 rfl rfl rfl ?_)) | refine A_not rfl rfl _ _ rfl rfl ?_ | refine A_field rfl rfl 29 _ 1 rfl ud29 rfl inf25 (by decide) 1 rfl rfl ?_ | refine A_load rfl rfl 25 _ rfl ud25 rfl rfl rfl rfl ?_ | refine A_len rfl rfl 25 _ rfl ud25 rfl ?_ | refine A_cmp (d := 22) rfl rfl (c := true) .geq 3 3 _ _ rfl rfl rfl (by exact congrArg some (decide_eq_true (by (try (dsimp only; fail_if_success done)); omega))) ?_ | (refine kL 19 rfl ?_; (first | refine A_pkt rfl rfl _ _ _ rfl rfl rfl ?_ | refine A_pkf rfl rfl _ _ _ rfl rfl rfl ?_)) | refine AL.nil ?_ | refine AL.skip rfl rfl ?_)) | with_reducible refine AW.at_region _ ?_ | (with_reducible (first | refine wk0 ?_ | refine wk2 ?_ | refine wk3 ?_ | refine wk9 ?_ | refine wkb ?_)) | refine kct rfl ?_)
      all_goals first | (exfalso; omega) | (exact Fin.q Try.results19 (.cons (.tmp rfl) (.cons (.tmp rfl) .nil)) [])
set_option maxHeartbeats 8000000 in
theorem hcopy_c (h : DHall) (hh : okHl h) : Cd Try.prog 24 [aHl h] (.agg [i64 h.ticket, .sl 0 0 h.chans.length, .t (.lst (h.waits.map tWt)), .sl 1 0 h.done.length]) [.row 0 66 5 (h.chans.map tCh), .row 0 50 4 (h.done.map tR)] := by
  have h1 : (h.chans.map tCh).length = h.chans.length := List.length_map _
  have hc0 := hh.c
  have hw0 := wcopy_c h.waits hh.w
  have hW : Cd Try.prog 50 [.ln (h.waits.map tWt)] (.t (.lst (h.waits.map tWt))) [] := by have hw0' := Cd.frz1 hw0 0 rfl (by repeat' (first | exact FzL.nil | apply FzL.cons | exact FzR.nlt | exact FzR.all (by first | rfl | (simp <;> fail) | (simp; omega)) | exact FzR.sl (by first | exact Nat.le_refl _ | (simp <;> fail) | (simp; omega)) | apply FzR.aggL | exact FzR.same _)) rfl; exact Cd.drop hw0' rfl
  refine Cd.enter' Try.func24 rfl Try.ntmps24 rfl ?_
  repeat' (first | ((with_reducible refine kAL ?_); (first | refine A_box rfl rfl 29 _ rfl rfl (.push qL qN) ?_ | refine A_alloc rfl rfl 29 rfl inf29 (cs := [.t (.v (.int .i64 0)), AV.nl, AV.nl, AV.nl]) rfl (.push qL qN) ?_ | refine A_field rfl rfl 29 _ 1 rfl ud29 rfl inf25 (by decide) 1 rfl rfl ?_ | refine A_load rfl rfl 25 _ rfl ud25 rfl rfl rfl rfl ?_ | refine A_len rfl rfl 25 _ rfl ud25 rfl ?_ | refine A_mt rfl rfl rfl rfl ?_ | refine AL.nil ?_)) | ((with_reducible refine kRG ?_); (first | (refine kR 932 rfl ?_; (first | refine R_field rfl rfl 29 _ 1 rfl ud29 rfl inf25 (by decide) 1 rfl rfl ?_ | refine R_field rfl rfl 29 _ 2 rfl ud29 rfl inf26 (by decide) 2 rfl rfl ?_ | refine R_field rfl rfl 29 _ 3 rfl ud29 rfl inf27 (by decide) 3 rfl rfl ?_)) | refine R_load rfl rfl 25 _ rfl ud25 rfl rfl rfl rfl ?_ | (refine kR 1578 rfl ?_; (refine R_cl rfl rfl Try.func49 rfl (clone_Ch h.chans hh.c) ?_; refine ⟨2, _, _, _, rfl, qU, qU, qZ, ?_⟩)) | refine R_load rfl rfl 26 _ rfl ud26 rfl rfl rfl rfl ?_ | (refine kR 1610 rfl ?_; (refine R_cl rfl rfl Try.func50 rfl (hW) ?_; refine ⟨0, _, _, _, rfl, qU, qU, qZ, ?_⟩)) | refine R_load rfl rfl 27 _ rfl ud27 rfl rfl rfl rfl ?_ | (refine kR 1642 rfl ?_; (refine R_cl rfl rfl Try.func51 rfl (clone_R h.done hh.d) ?_; refine ⟨3, _, _, _, rfl, qU, qU, qZ, ?_⟩)) | refine R_store rfl rfl 25 _ _ rfl inf25 rfl rfl rfl rfl (Nat.le_of_ble_eq_true rfl) qN qN ?_ | refine R_store rfl rfl 26 _ _ rfl inf26 rfl rfl rfl rfl (Nat.le_of_ble_eq_true rfl) qN qN ?_ | refine R_store rfl rfl 27 _ _ rfl inf27 rfl rfl rfl rfl (Nat.le_of_ble_eq_true rfl) qN qN ?_ | refine RG.nil ⟨by kernel_rfl, ?_⟩)) | (with_reducible (first | refine wk0 ?_ | refine wk1 ?_ | refine wk2 ?_)) | with_reducible refine AW.at_region _ ?_ | refine AW.at_draw 1 mixed 6 [[], [0], [0, 1], [], [3], [0, 1, 2, 3, 4], [], [6], [0, 1, 2, 3, 4, 5, 6, 7], [0, 1, 2, 3, 4, 6, 7], [0, 1, 2, 3, 4, 5, 6, 7, 8, 9], [0, 1, 2, 3, 4, 5, 6, 7, 8, 9, 10], [0, 1, 2, 3, 4, 5, 6, 7, 8, 9, 10, 11], [0, 1, 2, 3, 4, 5, 6, 7, 8, 9, 10, 11, 12], [0, 1, 2, 3, 4, 5, 6, 7, 8, 9, 10, 11, 12, 13]] qR ?_)
  all_goals first | (exfalso; omega) | skip
  refine AW.loopP (fun (q : Nat) => q ≤ h.chans.length) (fun (q : Nat) => (pu (pu (pu (pu (fun _ => .any) 1 (.ptr 0 0)) 2 (.ptr 1 0)) 18 (i64 h.chans.length)) 19 (i64 q))) (fun (q : Nat) => [.box 29 [i64 h.ticket, .sl 2 0 h.chans.length, .t (.lst (h.waits.map tWt)), .sl 3 0 h.done.length], .box 29 [i64 0, .nl, .nl, .nl], .row 0 66 5 (h.chans.map tCh), .row 0 50 4 (h.done.map tR)]) (fun (q : Nat) => h.chans.length - q) (0) ?_ ?_ ?_
  · exact Nat.zero_le _
  · exact Wk.cq 4
  · intro q hq
    by_cases hi : q < h.chans.length
    · obtain ⟨⟨g, cap, used, closed, buf⟩, hc⟩ : ∃ c, h.chans[q]? = some c := ⟨_, List.getElem?_eq_getElem hi⟩
      have hb := hh.b _ (List.mem_of_getElem? hc)
      have cC0 := ccopy_c ⟨g, cap, used, closed, buf⟩ (by dsimp only at hb ⊢; omega)
      dsimp only [aC] at cC0
      have cC : Cd Try.prog 52 [.agg [i64 g, i64 cap, bo used, bo closed, .ln (buf.map tI)]] (.agg [i64 g, i64 cap, bo used, bo closed, .t (.lst (buf.map tI))]) [] := by have cC0' := Cd.frz1 cC0 0 rfl (by repeat' (first | exact FzL.nil | apply FzL.cons | exact FzR.nlt | exact FzR.all (by first | rfl | (simp <;> fail) | (simp; omega)) | exact FzR.sl (by first | exact Nat.le_refl _ | (simp <;> fail) | (simp; omega)) | apply FzR.aggL | exact FzR.same _)) rfl; exact Cd.drop cC0' rfl
      have hs : h.chans.set q ⟨g, cap, used, closed, buf⟩ = h.chans := by
        obtain ⟨hq', e⟩ := List.getElem?_eq_some_iff.1 hc
        rw [← e]; exact List.set_getElem_self hq'
      repeat' (first | ((with_reducible refine kAL ?_); (first | refine A_mt rfl rfl rfl rfl ?_ | (refine kL 105 rfl ?_; (first | refine A_cmp (d := 20) rfl rfl (c := true) .lss 3 3 _ _ rfl rfl rfl (by exact congrArg some (decide_eq_true (by (try (dsimp only; fail_if_success done)); omega))) ?_ | refine A_add rfl rfl 3 3 _ _ rfl rfl rfl (by exact wi) ?_)) | refine A_as rfl rfl rfl rfl ?_ | refine AL.nil ?_)) | ((with_reducible refine kRG ?_); (first | refine R_field rfl rfl 29 _ 1 rfl ud29 rfl inf25 (by decide) 1 rfl rfl ?_ | refine R_load rfl rfl 25 _ rfl ud25 rfl rfl rfl rfl ?_ | refine R_mt rfl rfl rfl rfl ?_ | (refine kR 806 rfl ?_; refine R_idx_sl rfl rfl 25 _ _ rfl ud25 inf66 rfl rfl (by first | (simp <;> fail) | fail) rfl (by omega) _ (by with_reducible exact Int.toNat_natCast _) (by omega) ?_) | refine R_load_rp_agg rfl rfl 66 _ rfl ud66 rfl inf66 rfl rfl (by exact map_get (by assumption)) (us' := [_, _, _, _, _]) rfl rfl ?_ | (refine kR 1674 rfl ?_; (refine R_cl rfl rfl Try.func52 rfl (cC) ?_; refine ⟨0, _, _, _, rfl, qU, qU, qZ, ?_⟩)) | (refine kR 2115 rfl ?_; refine R_store_rp rfl rfl 66 _ _ rfl inf66 (by decide) rfl rfl (by exact map_get (by assumption)) rfl rfl rfl (Nat.le_of_ble_eq_true rfl) (by exact map_set (f := tCh) (x := ⟨g, cap, used, closed, buf⟩)) qN ?_) | refine RG.nil ⟨by kernel_rfl, ?_⟩)) | (with_reducible (first | refine wk0 ?_ | refine wk1 ?_ | refine wk2 ?_ | refine wk5 ?_ | refine wkd ?_)) | refine kct rfl ?_ | with_reducible refine AW.at_region _ ?_ | refine AW.at_draw 5 mixed 2 [[], [0], [], [], [3], [], [3, 4, 5], [3, 4, 5, 6], [3, 4, 5, 6, 7], [0, 1, 2, 3, 4, 5, 6, 7, 8], [0, 1, 2, 3, 4, 5, 6, 7, 8, 9]] qR ?_)
      all_goals first | (exfalso; omega) | skip
      rw [hs]
      refine ⟨q + 1, by omega, by omega, ?_⟩
      exact Wk.cq 4
    · repeat' (first | ((with_reducible refine kAL ?_); (first | refine A_cmp (d := 20) rfl rfl (c := false) .lss 3 3 _ _ rfl rfl rfl (by exact congrArg some (decide_eq_false (by (try (dsimp only; fail_if_success done)); omega))) ?_ | refine A_load_agg rfl rfl 29 _ rfl ud29 rfl inf29 rfl rfl (us' := [_, _, _, _]) rfl rfl ?_ | refine A_store rfl rfl 29 _ _ rfl inf29 rfl rfl rfl rfl (Nat.le_of_ble_eq_true rfl) qN qN ?_ | refine AL.nil ?_)) | (with_reducible (first | refine wk0 ?_ | refine wk2 ?_ | refine wk4 ?_ | refine wk7 ?_ | refine wk9 ?_ | refine wkb ?_ | refine wkc ?_)) | refine kcf rfl ?_ | with_reducible refine AW.at_region _ ?_)
      all_goals first | (exfalso; omega) | (exact Fin.q Try.results24 (.cons (.agg rfl rfl ud29 rfl inf29 (us := [_, _, _, _]) rfl rfl) .nil) [2, 3])
abbrev stB (c : DConf) (m k : Nat) (h : DHall) (t n : Int) : Ob := .box 70 [i64 h.ticket, .sl 1 0 m, .t (.lst (h.waits.map tWt)), .sl 2 0 k, i64 c.kind, i64 c.threads, i64 c.chans, i64 c.cap, i64 c.nodes, i64 c.retire, i64 c.patience, i64 c.tags, i64 c.seqs, i64 c.gens, .t (.lst (c.start.map tI)), i64 t, i64 n]
abbrev stH (c : DConf) (m k : Nat) (h : DHall) (t n : Int) : List Ob := [stB c m k h t n, .row 0 66 5 (h.chans.map tCh), .row 0 50 4 (h.done.map tR)]
set_option maxHeartbeats 8000000 in
theorem tell_c (c : DConf) (m k : Nat) (h : DHall) (t n : Int) (l : List DTold) (hk : h.done.length = k) (hl : l.length ≤ 1152921504606846976) (hk1 : k ≤ 4398046511104) :
    Cio Try.prog 97 [.ptr 0 0, .ln (l.map tTd)] (stH c m k h t n) (.tup []) (stH c m k ⟨h.ticket, h.chans, h.waits, tellL h.done l⟩ t n) := by
  have h1 : (l.map tTd).length = l.length := List.length_map _
  dsimp only [stH, stB]
  refine Cio.enter' Try.func97 rfl Try.ntmps97 rfl qM ?_
  repeat' (first | ((with_reducible refine kAL ?_); (first | (refine kL 0 rfl ?_; (first | refine A_mt rfl rfl rfl rfl ?_ | refine A_move rfl rfl _ (.inl rfl) (y := .ln _) rfl ?_)) | refine A_len rfl rfl 95 _ rfl ud95 rfl ?_ | refine AL.nil ?_)) | (with_reducible (first | refine wk0 ?_ | refine wk1 ?_ | refine wk2 ?_)) | with_reducible refine AW.at_region _ ?_)
  refine AW.loopP (fun (q : Nat) => q ≤ l.length) (fun (q : Nat) => (pu (pu (pu (pu (fun _ => .any) 0 (.ptr 0 0)) 6 (.ln (l.map tTd))) 7 (i64 (l.map tTd).length)) 8 (i64 q))) (fun (q : Nat) => [.box 70 [i64 h.ticket, .sl 1 0 m, .t (.lst (h.waits.map tWt)), .sl 2 0 k, i64 c.kind, i64 c.threads, i64 c.chans, i64 c.cap, i64 c.nodes, i64 c.retire, i64 c.patience, i64 c.tags, i64 c.seqs, i64 c.gens, .t (.lst (c.start.map tI)), i64 t, i64 n], .row 0 66 5 (h.chans.map tCh), .row 0 50 4 ((tellL h.done (l.take q)).map tR)]) (fun (q : Nat) => l.length - q) (0) ?_ ?_ ?_
  · exact Nat.zero_le _
  · exact Wk.cq 3
  · intro q hq
    have hD : (tellL h.done (l.take q)).length = k := by rw [tellL_len, hk]
    have hD2 : ((tellL h.done (l.take q)).map tR).length = k := by rw [List.length_map, hD]
    by_cases hi : q < l.length
    · obtain ⟨⟨th, ⟨ra, rb, rc, rd⟩⟩, hx⟩ : ∃ x, l[q]? = some x := ⟨_, List.getElem?_eq_getElem hi⟩
      have hs := tellL_next (d := h.done) hx
      dsimp only at hs
      by_cases ht : 0 ≤ th ∧ th < k
      · obtain ⟨j, rfl⟩ : ∃ j : Nat, th = j := ⟨th.toNat, by omega⟩
        rw [noteL_in (by omega)] at hs
        obtain ⟨y, hy⟩ : ∃ y, (tellL h.done (l.take q))[j]? = some y := ⟨_, List.getElem?_eq_getElem (by omega)⟩
        generalize tellL h.done (l.take q) = D at *
        repeat' (first | ((with_reducible refine kAL ?_); (first | refine A_mt rfl rfl rfl rfl ?_ | (refine kL 105 rfl ?_; (first | refine A_cmp (d := 9) rfl rfl (c := true) .lss 3 3 _ _ rfl rfl rfl (by exact congrArg some (decide_eq_true (by (try (dsimp only; fail_if_success done)); omega))) ?_ | refine A_add rfl rfl 3 3 _ _ rfl rfl rfl (by exact wi) ?_)) | (refine kL 3046 rfl ?_; refine A_idx rfl rfl 95 _ _ rfl ud95 inf124 (by decide) (by exact .inl rfl) rfl (by omega) _ (by with_reducible exact Int.toNat_natCast _) (by exact map_get (by assumption)) rfl (cs' := [_, _, _, _, _]) rfl ?_) | refine A_load_lp_agg rfl rfl 124 _ rfl ud124 rfl inf124 rfl (us' := [_, _, _, _, _]) rfl rfl ?_ | refine A_alloc rfl rfl 124 rfl inf124 (cs := [.t (.v (.int .i64 0)), .t (.v (.int .i64 0)), .t (.v (.int .i64 0)), .t (.v (.int .i64 0)), .t (.v (.int .i64 0))]) rfl (.push qL qN) ?_ | refine A_store rfl rfl 124 _ _ rfl inf124 rfl rfl rfl rfl (Nat.le_of_ble_eq_true rfl) qN qN ?_ | refine AL.nil ?_)) | ((with_reducible refine kRG ?_); (first | (refine kR 3972 rfl ?_; (first | refine R_field rfl rfl 124 _ 0 rfl ud124 rfl inf3 (by decide) 0 rfl rfl ?_ | refine R_field rfl rfl 124 _ 1 rfl ud124 rfl inf50 (by decide) 1 rfl rfl ?_)) | refine R_load rfl rfl 3 _ rfl ud3 rfl rfl rfl rfl ?_ | (refine kR 105 rfl ?_; (first | refine R_cmp (d := 14) rfl rfl (c := true) .geq 3 3 _ _ rfl rfl rfl (by exact congrArg some (decide_eq_true (by (try (dsimp only; fail_if_success done)); omega))) ?_ | refine R_cmp (d := 24) rfl rfl (c := true) .lss 3 3 _ _ rfl rfl rfl (by exact congrArg some (decide_eq_true (by (try (dsimp only; fail_if_success done)); omega))) ?_)) | (refine kR 0 rfl ?_; (first | refine R_mt rfl rfl rfl rfl ?_ | refine R_move rfl rfl _ (.inl rfl) (y := .ptr _ _) rfl ?_)) | (refine kR 31 rfl ?_; refine R_nilc rfl rfl _ rfl rfl rfl ?_) | refine R_field rfl rfl 70 _ 0 rfl ud70 rfl inf29 (by decide) 0 rfl rfl ?_ | refine R_field rfl rfl 29 _ 3 rfl ud29 rfl inf27 (by decide) 3 rfl rfl ?_ | refine R_load rfl rfl 27 _ rfl ud27 rfl rfl rfl rfl ?_ | refine R_len rfl rfl 27 _ rfl ud27 rfl ?_ | (refine kR 19 rfl ?_; refine R_pkt rfl rfl _ _ _ rfl rfl rfl ?_) | refine R_load_agg rfl rfl 50 _ rfl ud50 rfl inf50 rfl rfl (us' := [_, _, _, _]) rfl rfl ?_ | (refine kR 870 rfl ?_; refine R_idx_sl rfl rfl 27 _ _ rfl ud27 inf50 rfl rfl (by (simp; omega)) rfl (by omega) _ (by with_reducible exact Int.toNat_natCast _) (by omega) ?_) | (refine kR 1603 rfl ?_; refine R_store_rp rfl rfl 50 _ _ rfl inf50 (by decide) rfl rfl (by exact map_get (by assumption)) rfl rfl rfl (Nat.le_of_ble_eq_true rfl) (by exact map_set (f := tR) (x := ⟨ra, rb, rc, rd⟩)) qN ?_) | refine RG.nil ⟨by kernel_rfl, ?_⟩)) | (with_reducible (first | refine wk0 ?_ | refine wk1 ?_ | refine wk2 ?_ | refine wk5 ?_ | refine wkd ?_)) | refine kct rfl ?_ | with_reducible refine AW.at_region _ ?_ | refine AW.at_draw 3 mixed 0 [[], [0], [0, 1], [0, 1, 2], [0, 1, 2, 3], [0, 1, 2, 3, 4], [0, 1, 2, 3], [0, 1, 2, 3, 6], [0, 1, 2, 3, 6, 7], [0, 1, 2, 3, 6, 7, 8], [0, 1, 2, 3, 6, 7, 8, 9], [0, 1, 2, 3, 6, 7, 8, 9, 10], [0, 1, 2, 3, 4, 5, 6, 7, 8, 9, 10, 11], [0, 1, 2, 3, 4, 5, 6, 7, 8, 9, 10, 11, 12]] qR ?_ | refine AW.at_draw 4 mixed 0 [[], [0], [0, 1], [0, 1, 2], [0, 1, 2, 3], [], [5], [], [7], [0, 1, 2, 3, 4, 5, 6, 7, 8], [0, 1, 2, 3, 4, 5, 6, 7, 8, 9]] qR ?_)
        all_goals first | (exfalso; omega) | skip
        refine ⟨q + 1, by omega, by omega, ?_⟩
        rw [hs]
        exact Wk.cq 3
      · rw [noteL_out (by omega)] at hs
        generalize tellL h.done (l.take q) = D at *
        by_cases h0 : 0 ≤ th
        all_goals
          repeat' (first | ((with_reducible refine kAL ?_); (first | refine A_mt rfl rfl rfl rfl ?_ | (refine kL 105 rfl ?_; (first | refine A_cmp (d := 9) rfl rfl (c := true) .lss 3 3 _ _ rfl rfl rfl (by exact congrArg some (decide_eq_true (by (try (dsimp only; fail_if_success done)); omega))) ?_ | refine A_add rfl rfl 3 3 _ _ rfl rfl rfl (by exact wi) ?_)) | (refine kL 3046 rfl ?_; refine A_idx rfl rfl 95 _ _ rfl ud95 inf124 (by decide) (by exact .inl rfl) rfl (by omega) _ (by with_reducible exact Int.toNat_natCast _) (by exact map_get (by assumption)) rfl (cs' := [_, _, _, _, _]) rfl ?_) | refine A_load_lp_agg rfl rfl 124 _ rfl ud124 rfl inf124 rfl (us' := [_, _, _, _, _]) rfl rfl ?_ | refine A_alloc rfl rfl 124 rfl inf124 (cs := [.t (.v (.int .i64 0)), .t (.v (.int .i64 0)), .t (.v (.int .i64 0)), .t (.v (.int .i64 0)), .t (.v (.int .i64 0))]) rfl (.push qL qN) ?_ | refine A_store rfl rfl 124 _ _ rfl inf124 rfl rfl rfl rfl (Nat.le_of_ble_eq_true rfl) qN qN ?_ | refine AL.nil ?_)) | ((with_reducible refine kRG ?_); (first | refine R_field rfl rfl 124 _ 0 rfl ud124 rfl inf3 (by decide) 0 rfl rfl ?_ | refine R_load rfl rfl 3 _ rfl ud3 rfl rfl rfl rfl ?_ | (refine kR 105 rfl ?_; (first | refine R_cmp (d := 14) rfl rfl (c := true) .geq 3 3 _ _ rfl rfl rfl (by exact congrArg some (decide_eq_true (by (try (dsimp only; fail_if_success done)); omega))) ?_ | refine R_cmp (d := 14) rfl rfl (c := false) .geq 3 3 _ _ rfl rfl rfl (by exact congrArg some (decide_eq_false (by (try (dsimp only; fail_if_success done)); omega))) ?_ | refine R_cmp (d := 24) rfl rfl (c := false) .lss 3 3 _ _ rfl rfl rfl (by exact congrArg some (decide_eq_false (by (try (dsimp only; fail_if_success done)); omega))) ?_)) | (refine kR 0 rfl ?_; (first | refine R_mt rfl rfl rfl rfl ?_ | refine R_move rfl rfl _ (.inl rfl) (y := .ptr _ _) rfl ?_)) | (refine kR 31 rfl ?_; refine R_nilc rfl rfl _ rfl rfl rfl ?_) | refine R_field rfl rfl 70 _ 0 rfl ud70 rfl inf29 (by decide) 0 rfl rfl ?_ | refine R_field rfl rfl 29 _ 3 rfl ud29 rfl inf27 (by decide) 3 rfl rfl ?_ | refine R_load rfl rfl 27 _ rfl ud27 rfl rfl rfl rfl ?_ | refine R_len rfl rfl 27 _ rfl ud27 rfl ?_ | (refine kR 19 rfl ?_; (first | refine R_pkt rfl rfl _ _ _ rfl rfl rfl ?_ | refine R_pkf rfl rfl _ _ _ rfl rfl rfl ?_)) | refine RG.nil ⟨by kernel_rfl, ?_⟩ | refine R_skip rfl rfl ?_)) | (with_reducible (first | refine wk0 ?_ | refine wk1 ?_ | refine wk2 ?_ | refine wk5 ?_ | refine wkd ?_)) | refine kct rfl ?_ | refine kcf rfl ?_ | with_reducible refine AW.at_region _ ?_ | refine AW.at_draw 3 mixed 0 [[], [0], [0, 1], [0, 1, 2], [0, 1, 2, 3], [0, 1, 2, 3, 4], [0, 1, 2, 3], [0, 1, 2, 3, 6], [0, 1, 2, 3, 6, 7], [0, 1, 2, 3, 6, 7, 8], [0, 1, 2, 3, 6, 7, 8, 9], [0, 1, 2, 3, 6, 7, 8, 9, 10], [0, 1, 2, 3, 4, 5, 6, 7, 8, 9, 10, 11], [0, 1, 2, 3, 4, 5, 6, 7, 8, 9, 10, 11, 12]] qR ?_)
          all_goals first | (exfalso; omega) | skip
          refine ⟨q + 1, by omega, by omega, ?_⟩
          rw [hs]
          exact Wk.cq 3
    · have e : q = l.length := by omega
      subst e
      rw [List.take_length] at *
      repeat' (first | ((with_reducible refine kAL ?_); (first | refine A_cmp (d := 9) rfl rfl (c := false) .lss 3 3 _ _ rfl rfl rfl (by exact congrArg some (decide_eq_false (by (try (dsimp only; fail_if_success done)); omega))) ?_ | refine AL.nil ?_)) | (with_reducible (first | refine wk0 ?_ | refine wk2 ?_ | refine wk4 ?_ | refine wk7 ?_ | refine wka ?_ | refine wkc ?_)) | refine kcf rfl ?_ | with_reducible refine AW.at_region _ ?_)
      all_goals first | (exfalso; omega) | (exact Fin.q Try.results97 .nil [])
theorem handle_c (p g : Int) : Cd Try.prog 43 [i64 p, i64 g] (i64 (hdl p g)) [] := by
  unfold hdl
  by_cases h1 : 0 ≤ p ∧ p ≤ 7 ∧ 1 ≤ g ∧ g ≤ 4095
  · rw [if_pos h1]
    refine Cd.enter' Try.func43 rfl Try.ntmps43 rfl ?_
    repeat' (first | ((with_reducible refine kAL ?_); (first | refine A_as rfl rfl rfl rfl ?_ | refine A_mt rfl rfl rfl rfl ?_ | (refine kL 105 rfl ?_; (first | refine A_cmp (d := 6) rfl rfl (c := false) .lss 3 3 _ _ rfl rfl rfl (by exact congrArg some (decide_eq_false (by (try (dsimp only; fail_if_success done)); omega))) ?_ | refine A_cmp (d := 9) rfl rfl (c := false) .geq 3 3 _ _ rfl rfl rfl (by exact congrArg some (decide_eq_false (by (try (dsimp only; fail_if_success done)); omega))) ?_ | refine A_cmp (d := 13) rfl rfl (c := false) .lss 3 3 _ _ rfl rfl rfl (by exact congrArg some (decide_eq_false (by (try (dsimp only; fail_if_success done)); omega))) ?_ | refine A_cmp (d := 17) rfl rfl (c := false) .gtr 3 3 _ _ rfl rfl rfl (by exact congrArg some (decide_eq_false (by (try (dsimp only; fail_if_success done)); omega))) ?_ | refine A_mul rfl rfl 3 3 _ _ rfl rfl rfl (by first | exact wi | rfl) ?_ | refine A_add rfl rfl 3 3 _ _ rfl rfl rfl (by exact wi) ?_)) | (refine kL 19 rfl ?_; refine A_pkf rfl rfl _ _ _ rfl rfl rfl ?_) | refine AL.nil ?_)) | with_reducible refine AW.at_region _ ?_ | (with_reducible (first | refine wk0 ?_ | refine wk2 ?_ | refine wk9 ?_ | refine wkb ?_ | refine wkd ?_)) | refine kcf rfl ?_)
    all_goals first | (exfalso; omega) | (exact Fin.q Try.results43 (.cons (.tmp rfl) .nil) [])
  · rw [if_neg h1]
    by_cases p1 : p < 0
    · refine Cd.enter' Try.func43 rfl Try.ntmps43 rfl ?_
      repeat' (first | ((with_reducible refine kAL ?_); (first | refine A_as rfl rfl rfl rfl ?_ | refine A_mt rfl rfl rfl rfl ?_ | refine A_cmp (d := 6) rfl rfl (c := true) .lss 3 3 _ _ rfl rfl rfl (by exact congrArg some (decide_eq_true (by (try (dsimp only; fail_if_success done)); omega))) ?_ | (refine kL 19 rfl ?_; refine A_pkt rfl rfl _ _ _ rfl rfl rfl ?_) | refine AL.nil ?_ | refine AL.skip rfl rfl ?_)) | with_reducible refine AW.at_region _ ?_ | (with_reducible (first | refine wk0 ?_ | refine wk2 ?_ | refine wk3 ?_ | refine wk9 ?_ | refine wkb ?_)) | refine kct rfl ?_)
      all_goals first | (exfalso; omega) | (exact Fin.q Try.results43 (.cons (.tmp rfl) .nil) [])
    · by_cases p2 : 7 < p
      · refine Cd.enter' Try.func43 rfl Try.ntmps43 rfl ?_
        repeat' (first | ((with_reducible refine kAL ?_); (first | refine A_as rfl rfl rfl rfl ?_ | refine A_mt rfl rfl rfl rfl ?_ | (refine kL 105 rfl ?_; (first | refine A_cmp (d := 6) rfl rfl (c := false) .lss 3 3 _ _ rfl rfl rfl (by exact congrArg some (decide_eq_false (by (try (dsimp only; fail_if_success done)); omega))) ?_ | refine A_cmp (d := 9) rfl rfl (c := true) .geq 3 3 _ _ rfl rfl rfl (by exact congrArg some (decide_eq_true (by (try (dsimp only; fail_if_success done)); omega))) ?_)) | (refine kL 19 rfl ?_; (first | refine A_pkt rfl rfl _ _ _ rfl rfl rfl ?_ | refine A_pkf rfl rfl _ _ _ rfl rfl rfl ?_)) | refine AL.nil ?_ | refine AL.skip rfl rfl ?_)) | with_reducible refine AW.at_region _ ?_ | (with_reducible (first | refine wk0 ?_ | refine wk2 ?_ | refine wk3 ?_ | refine wk9 ?_ | refine wkb ?_)) | refine kct rfl ?_)
        all_goals first | (exfalso; omega) | (exact Fin.q Try.results43 (.cons (.tmp rfl) .nil) [])
      · by_cases p3 : g < 1
        · refine Cd.enter' Try.func43 rfl Try.ntmps43 rfl ?_
          repeat' (first | ((with_reducible refine kAL ?_); (first | refine A_as rfl rfl rfl rfl ?_ | refine A_mt rfl rfl rfl rfl ?_ | (refine kL 105 rfl ?_; (first | refine A_cmp (d := 6) rfl rfl (c := false) .lss 3 3 _ _ rfl rfl rfl (by exact congrArg some (decide_eq_false (by (try (dsimp only; fail_if_success done)); omega))) ?_ | refine A_cmp (d := 9) rfl rfl (c := false) .geq 3 3 _ _ rfl rfl rfl (by exact congrArg some (decide_eq_false (by (try (dsimp only; fail_if_success done)); omega))) ?_ | refine A_cmp (d := 13) rfl rfl (c := true) .lss 3 3 _ _ rfl rfl rfl (by exact congrArg some (decide_eq_true (by (try (dsimp only; fail_if_success done)); omega))) ?_)) | (refine kL 19 rfl ?_; (first | refine A_pkt rfl rfl _ _ _ rfl rfl rfl ?_ | refine A_pkf rfl rfl _ _ _ rfl rfl rfl ?_)) | refine AL.nil ?_ | refine AL.skip rfl rfl ?_)) | with_reducible refine AW.at_region _ ?_ | (with_reducible (first | refine wk0 ?_ | refine wk2 ?_ | refine wk3 ?_ | refine wk9 ?_ | refine wkb ?_)) | refine kct rfl ?_)
          all_goals first | (exfalso; omega) | (exact Fin.q Try.results43 (.cons (.tmp rfl) .nil) [])
        · refine Cd.enter' Try.func43 rfl Try.ntmps43 rfl ?_
          repeat' (first | ((with_reducible refine kAL ?_); (first | refine A_as rfl rfl rfl rfl ?_ | refine A_mt rfl rfl rfl rfl ?_ | (refine kL 105 rfl ?_; (first | refine A_cmp (d := 6) rfl rfl (c := false) .lss 3 3 _ _ rfl rfl rfl (by exact congrArg some (decide_eq_false (by (try (dsimp only; fail_if_success done)); omega))) ?_ | refine A_cmp (d := 9) rfl rfl (c := false) .geq 3 3 _ _ rfl rfl rfl (by exact congrArg some (decide_eq_false (by (try (dsimp only; fail_if_success done)); omega))) ?_ | refine A_cmp (d := 13) rfl rfl (c := false) .lss 3 3 _ _ rfl rfl rfl (by exact congrArg some (decide_eq_false (by (try (dsimp only; fail_if_success done)); omega))) ?_ | refine A_cmp (d := 17) rfl rfl (c := true) .gtr 3 3 _ _ rfl rfl rfl (by exact congrArg some (decide_eq_true (by (try (dsimp only; fail_if_success done)); omega))) ?_)) | (refine kL 19 rfl ?_; refine A_pkf rfl rfl _ _ _ rfl rfl rfl ?_) | refine AL.nil ?_)) | with_reducible refine AW.at_region _ ?_ | (with_reducible (first | refine wk0 ?_ | refine wk2 ?_ | refine wk3 ?_ | refine wk9 ?_ | refine wkb ?_)) | refine kct rfl ?_)
          all_goals first | (exfalso; omega) | (exact Fin.q Try.results43 (.cons (.tmp rfl) .nil) [])
set_option maxHeartbeats 16000000 in
theorem open_c (c : DConf) (m k : Nat) (h : DHall) (t n cap : Int) (hm : h.chans.length = m) (hm1 : m ≤ 2932031007402) (hg : ∀ x ∈ h.chans, sI x.gen) :
    Cio Try.prog 61 [.ptr 0 0, i64 cap] (stH c m k h t n) (aR (openH c h cap).2) (stH c m k (openH c h cap).1 t n) := by
  have h1 : (h.chans.map tCh).length = m := by rw [List.length_map, hm]
  unfold openH
  by_cases hcap : cap < 0 ∨ c.cap < cap
  · rw [if_pos hcap]
    dsimp only [stH, stB, aR]
    by_cases h0 : cap < 0
    all_goals
      refine Cio.enter' Try.func61 rfl Try.ntmps61 rfl qM ?_
      repeat' (first | ((with_reducible refine kAL ?_); (first | refine A_alloc rfl rfl 50 rfl inf50 (cs := [.t (.v (.int .i64 0)), .t (.v (.int .i64 0)), .t (.v (.int .i64 0)), .t (.v (.int .i64 0))]) rfl (.push qL qN) ?_ | (refine kL 0 rfl ?_; (first | refine A_mt rfl rfl rfl rfl ?_ | refine A_move rfl rfl _ (.inl rfl) (y := .ptr _ _) rfl ?_)) | (refine kL 105 rfl ?_; (first | refine A_cmp (d := 9) rfl rfl (c := true) .lss 3 3 _ _ rfl rfl rfl (by exact congrArg some (decide_eq_true (by (try (dsimp only; fail_if_success done)); omega))) ?_ | refine A_cmp (d := 9) rfl rfl (c := false) .lss 3 3 _ _ rfl rfl rfl (by exact congrArg some (decide_eq_false (by (try (dsimp only; fail_if_success done)); omega))) ?_ | refine A_cmp (d := 17) rfl rfl (c := true) .gtr 3 3 _ _ rfl rfl rfl (by exact congrArg some (decide_eq_true (by (try (dsimp only; fail_if_success done)); omega))) ?_)) | (refine kL 31 rfl ?_; refine A_nilc rfl rfl _ rfl rfl rfl ?_) | refine A_field rfl rfl 70 _ 1 rfl ud70 rfl inf24 (by decide) 4 rfl rfl ?_ | refine A_field rfl rfl 24 _ 3 rfl ud24 rfl inf3 (by decide) 3 rfl rfl ?_ | refine A_load rfl rfl 3 _ rfl ud3 rfl rfl rfl rfl ?_ | (refine kL 19 rfl ?_; (first | refine A_pkt rfl rfl _ _ _ rfl rfl rfl ?_ | refine A_pkf rfl rfl _ _ _ rfl rfl rfl ?_)) | (refine kL 1614 rfl ?_; refine A_build rfl rfl 50 _ rfl ud50 inf50 [(0, 1), (1, 1), (2, 1), (3, 1)] (by kernel_rfl) (zs := [.t (.v (.int .i64 0)), .t (.v (.int .i64 0)), .t (.v (.int .i64 0)), .t (.v (.int .i64 0))]) rfl (.cons rfl .nil) (cs := [_, _, _, _]) rfl ?_) | refine A_store rfl rfl 50 _ _ rfl inf50 rfl rfl rfl rfl (Nat.le_of_ble_eq_true rfl) qN qN ?_ | refine AL.nil ?_ | refine AL.skip rfl rfl ?_)) | (with_reducible (first | refine wk0 ?_ | refine wk2 ?_ | refine wk3 ?_ | refine wk9 ?_ | refine wkb ?_)) | refine kct rfl ?_ | with_reducible refine AW.at_region _ ?_)
      all_goals first | (exfalso; omega) | (exact Fin.q Try.results61 (.cons (.agg rfl rfl ud50 rfl inf50 (us := [_, _, _, _]) rfl rfl) .nil) [])
  · rw [if_neg hcap]
    generalize hR : (if 0 ≤ ixF (okO c) h.chans then (cH h (h.chans.set (ixF (okO c) h.chans).toNat ⟨(chA h (ixF (okO c) h.chans)).gen + 1, cap, true, false, []⟩), (⟨0, 0, 0, hdl (ixF (okO c) h.chans) ((chA h (ixF (okO c) h.chans)).gen + 1)⟩ : Rst)) else (h, ⟨0, 0, if h.chans.any (fun x => !x.used) then 7 else 6, 0⟩)) = R
    dsimp only [stH, stB]
    refine Cio.enter' Try.func61 rfl Try.ntmps61 rfl qM ?_
    repeat' (first | ((with_reducible refine kAL ?_); (first | refine A_alloc rfl rfl 50 rfl inf50 (cs := [.t (.v (.int .i64 0)), .t (.v (.int .i64 0)), .t (.v (.int .i64 0)), .t (.v (.int .i64 0))]) rfl (.push qL qN) ?_ | (refine kL 0 rfl ?_; (first | refine A_mt rfl rfl rfl rfl ?_ | refine A_move rfl rfl _ (.inl rfl) (y := .ptr _ _) rfl ?_)) | (refine kL 105 rfl ?_; (first | refine A_cmp (d := 9) rfl rfl (c := false) .lss 3 3 _ _ rfl rfl rfl (by exact congrArg some (decide_eq_false (by (try (dsimp only; fail_if_success done)); omega))) ?_ | refine A_cmp (d := 17) rfl rfl (c := false) .gtr 3 3 _ _ rfl rfl rfl (by exact congrArg some (decide_eq_false (by (try (dsimp only; fail_if_success done)); omega))) ?_)) | (refine kL 31 rfl ?_; refine A_nilc rfl rfl _ rfl rfl rfl ?_) | (refine kL 2244 rfl ?_; (first | refine A_field rfl rfl 70 _ 1 rfl ud70 rfl inf24 (by decide) 4 rfl rfl ?_ | refine A_field rfl rfl 70 _ 0 rfl ud70 rfl inf29 (by decide) 0 rfl rfl ?_)) | refine A_field rfl rfl 24 _ 3 rfl ud24 rfl inf3 (by decide) 3 rfl rfl ?_ | refine A_load rfl rfl 3 _ rfl ud3 rfl rfl rfl rfl ?_ | (refine kL 19 rfl ?_; refine A_pkf rfl rfl _ _ _ rfl rfl rfl ?_) | refine A_as rfl rfl rfl rfl ?_ | refine A_field rfl rfl 29 _ 1 rfl ud29 rfl inf25 (by decide) 1 rfl rfl ?_ | refine A_load rfl rfl 25 _ rfl ud25 rfl rfl rfl rfl ?_ | refine A_len rfl rfl 25 _ rfl ud25 rfl ?_ | refine AL.nil ?_)) | (with_reducible (first | refine wk0 ?_ | refine wk1 ?_ | refine wk2 ?_ | refine wkd ?_)) | refine kcf rfl ?_ | with_reducible refine AW.at_region _ ?_)
    all_goals first | (exfalso; omega) | skip
    refine AW.loopP (fun (q : Nat) => q ≤ m ∧ ∀ j, j < q → ∀ b, h.chans[j]? = some b → okO c b = false) (fun (q : Nat) => (pu (pu (pu (pu (pu (pu (pu (fun _ => .any) 0 (.ptr 0 0)) 1 (i64 cap)) 4 (.ptr 3 0)) 5 (bo ((h.chans.take q).any fun x => !x.used))) 24 (.sl 1 0 m)) 25 (i64 m)) 26 (i64 q))) (fun (q : Nat) => [.box 70 [i64 h.ticket, .sl 1 0 m, .t (.lst (h.waits.map tWt)), .sl 2 0 k, i64 c.kind, i64 c.threads, i64 c.chans, i64 c.cap, i64 c.nodes, i64 c.retire, i64 c.patience, i64 c.tags, i64 c.seqs, i64 c.gens, .t (.lst (c.start.map tI)), i64 t, i64 n], .row 0 66 5 (h.chans.map tCh), .row 0 50 4 (h.done.map tR), .box 50 [i64 0, i64 0, i64 0, i64 0]]) (fun (q : Nat) => m - q) (0) ?_ ?_ ?_
    · exact ⟨Nat.zero_le _, fun j hj => by omega⟩
    · exact Wk.cq 4
    · rintro q ⟨hq, hno⟩
      by_cases hi : q < m
      · obtain ⟨⟨g, cp, used, closed, buf⟩, hc⟩ : ∃ x, h.chans[q]? = some x := ⟨_, List.getElem?_eq_getElem (by omega)⟩
        have hgb := hg _ (List.mem_of_getElem? hc)
        unfold sI at hgb
        dsimp only at hgb
        have hany : ((h.chans.take (q + 1)).any fun x => !x.used) = (((h.chans.take q).any fun x => !x.used) || !used) := by rw [List.take_add_one, hc, List.any_append]; simp
        cases ho : okO c ⟨g, cp, used, closed, buf⟩
        · have hno' : ∀ j, j < q + 1 → ∀ b, h.chans[j]? = some b → okO c b = false := fun j hj b hb => by
            by_cases ej : j = q
            · subst ej; rw [hc] at hb; cases hb; exact ho
            · exact hno j (by omega) b hb
          cases used
          · have hge : ¬ g < min c.gens 4095 := by unfold okO at ho; simpa using ho
            generalize ((h.chans.take q).any fun x => !x.used) = sp at hany
            repeat' (first | ((with_reducible refine kAL ?_); (first | refine A_mt rfl rfl rfl rfl ?_ | (refine kL 105 rfl ?_; (first | refine A_cmp (d := 27) rfl rfl (c := true) .lss 3 3 _ _ rfl rfl rfl (by exact congrArg some (decide_eq_true (by (try (dsimp only; fail_if_success done)); omega))) ?_ | refine A_add rfl rfl 3 3 _ _ rfl rfl rfl (by exact wi) ?_)) | refine A_as rfl rfl rfl rfl ?_ | (refine kL 806 rfl ?_; refine A_idx_sl rfl rfl 25 _ _ rfl ud25 inf66 rfl rfl (by (simp; omega)) rfl (by omega) _ (by with_reducible exact Int.toNat_natCast _) (by omega) ?_) | refine A_load_rp_agg rfl rfl 66 _ rfl ud66 rfl inf66 rfl rfl (by exact map_get (by assumption)) (us' := [_, _, _, _, _]) rfl rfl ?_ | refine A_alloc rfl rfl 66 rfl inf66 (cs := [.t (.v (.int .i64 0)), .t (.v (.int .i64 0)), .t (.v (.bool false)), .t (.v (.bool false)), AV.nl]) rfl (.push qL qN) ?_ | refine A_store rfl rfl 66 _ _ rfl inf66 rfl rfl rfl rfl (Nat.le_of_ble_eq_true rfl) qN qN ?_ | refine A_field rfl rfl 66 _ 2 rfl ud66 rfl inf4 (by decide) 2 rfl rfl ?_ | refine A_load rfl rfl 4 _ rfl ud4 rfl rfl rfl rfl ?_ | refine AL.nil ?_)) | ((with_reducible refine kRG ?_); (first | refine R_field rfl rfl 66 _ 0 rfl ud66 rfl inf3 (by decide) 0 rfl rfl ?_ | refine R_load rfl rfl 3 _ rfl ud3 rfl rfl rfl rfl ?_ | refine R_move rfl rfl _ (.inl rfl) (y := .ptr _ _) rfl ?_ | (refine kR 31 rfl ?_; refine R_nilc rfl rfl _ rfl rfl rfl ?_) | refine R_field rfl rfl 70 _ 1 rfl ud70 rfl inf24 (by decide) 4 rfl rfl ?_ | refine R_field rfl rfl 24 _ 9 rfl ud24 rfl inf3 (by decide) 9 rfl rfl ?_ | (refine kR 12 rfl ?_; refine R_min rfl rfl _ _ _ rfl rfl rfl ?_) | refine R_cmp (d := 41) rfl rfl (c := true) .geq 3 3 _ _ rfl rfl rfl (by exact congrArg some (decide_eq_true (by (try (dsimp only; fail_if_success done)); omega))) ?_ | refine RG.nil ⟨by kernel_rfl, ?_⟩)) | (with_reducible (first | refine wk0 ?_ | refine wk1 ?_ | refine wk2 ?_ | refine wk4 ?_ | refine wk7 ?_ | refine wkc ?_ | refine wkd ?_)) | refine kct rfl ?_ | refine kcf rfl ?_ | with_reducible refine AW.at_region _ ?_ | refine AW.at_draw 8 mixed 0 [[], [0], [], [2], [2, 3], [2, 3, 4], [2, 3, 4, 5], [2, 3, 4, 5, 6], [0, 1, 2, 3, 4, 5, 6, 7]] qR ?_)
            all_goals first | (exfalso; omega) | skip
            refine ⟨q + 1, ⟨by omega, hno'⟩, by omega, ?_⟩
            rw [hany]
            simp only [Bool.not_false, Bool.or_true]
            exact Wk.cq 4
          · generalize ((h.chans.take q).any fun x => !x.used) = sp at hany
            repeat' (first | ((with_reducible refine kAL ?_); (first | refine A_mt rfl rfl rfl rfl ?_ | (refine kL 105 rfl ?_; (first | refine A_cmp (d := 27) rfl rfl (c := true) .lss 3 3 _ _ rfl rfl rfl (by exact congrArg some (decide_eq_true (by (try (dsimp only; fail_if_success done)); omega))) ?_ | refine A_add rfl rfl 3 3 _ _ rfl rfl rfl (by exact wi) ?_)) | refine A_as rfl rfl rfl rfl ?_ | (refine kL 806 rfl ?_; refine A_idx_sl rfl rfl 25 _ _ rfl ud25 inf66 rfl rfl (by (simp; omega)) rfl (by omega) _ (by with_reducible exact Int.toNat_natCast _) (by omega) ?_) | refine A_load_rp_agg rfl rfl 66 _ rfl ud66 rfl inf66 rfl rfl (by exact map_get (by assumption)) (us' := [_, _, _, _, _]) rfl rfl ?_ | refine A_alloc rfl rfl 66 rfl inf66 (cs := [.t (.v (.int .i64 0)), .t (.v (.int .i64 0)), .t (.v (.bool false)), .t (.v (.bool false)), AV.nl]) rfl (.push qL qN) ?_ | refine A_store rfl rfl 66 _ _ rfl inf66 rfl rfl rfl rfl (Nat.le_of_ble_eq_true rfl) qN qN ?_ | refine A_field rfl rfl 66 _ 2 rfl ud66 rfl inf4 (by decide) 2 rfl rfl ?_ | refine A_load rfl rfl 4 _ rfl ud4 rfl rfl rfl rfl ?_ | refine AL.nil ?_)) | (with_reducible (first | refine wk0 ?_ | refine wk1 ?_ | refine wk2 ?_ | refine wk4 ?_ | refine wk7 ?_ | refine wkc ?_ | refine wkd ?_)) | refine kct rfl ?_ | with_reducible refine AW.at_region _ ?_)
            all_goals first | (exfalso; omega) | skip
            refine ⟨q + 1, ⟨by omega, hno'⟩, by omega, ?_⟩
            rw [hany]
            simp only [Bool.not_true, Bool.or_false]
            exact Wk.cq 4
        · have hix := ixF_at (okO c) h.chans q _ hno hc ho
          have hch : chA h (q : Int) = ⟨g, cp, used, closed, buf⟩ := by unfold chA; rw [Int.toNat_natCast, getD_of hc]
          rw [hix, if_pos (by omega), hch, Int.toNat_natCast] at hR
          have hlt : used = false ∧ g < min c.gens 4095 := by unfold okO at ho; simpa using ho
          obtain ⟨rfl, hge⟩ := hlt
          subst hR
          dsimp only [cH]
          have cH := handle_c q (g + 1)
          repeat' (first | ((with_reducible refine kAL ?_); (first | refine A_mt rfl rfl rfl rfl ?_ | (refine kL 105 rfl ?_; (first | refine A_cmp (d := 27) rfl rfl (c := true) .lss 3 3 _ _ rfl rfl rfl (by exact congrArg some (decide_eq_true (by (try (dsimp only; fail_if_success done)); omega))) ?_ | refine A_add rfl rfl 3 3 _ _ rfl rfl rfl (by exact wi) ?_)) | refine A_load rfl rfl 3 _ rfl ud3 rfl rfl rfl rfl ?_ | (refine kL 1614 rfl ?_; refine A_build rfl rfl 50 _ rfl ud50 inf50 [(0, 1), (1, 1), (2, 1), (3, 1)] (by kernel_rfl) (zs := [.t (.v (.int .i64 0)), .t (.v (.int .i64 0)), .t (.v (.int .i64 0)), .t (.v (.int .i64 0))]) rfl (.cons rfl .nil) (cs := [_, _, _, _]) rfl ?_) | refine A_store rfl rfl 50 _ _ rfl inf50 rfl rfl rfl rfl (Nat.le_of_ble_eq_true rfl) qN qN ?_ | refine A_as rfl rfl rfl rfl ?_ | (refine kL 806 rfl ?_; refine A_idx_sl rfl rfl 25 _ _ rfl ud25 inf66 rfl rfl (by (simp; omega)) rfl (by omega) _ (by with_reducible exact Int.toNat_natCast _) (by omega) ?_) | refine A_load_rp_agg rfl rfl 66 _ rfl ud66 rfl inf66 rfl rfl (by exact map_get (by assumption)) (us' := [_, _, _, _, _]) rfl rfl ?_ | refine A_alloc rfl rfl 66 rfl inf66 (cs := [.t (.v (.int .i64 0)), .t (.v (.int .i64 0)), .t (.v (.bool false)), .t (.v (.bool false)), AV.nl]) rfl (.push qL qN) ?_ | refine A_store rfl rfl 66 _ _ rfl inf66 rfl rfl rfl rfl (Nat.le_of_ble_eq_true rfl) qN qN ?_ | (refine kL 2116 rfl ?_; (first | refine A_field rfl rfl 66 _ 2 rfl ud66 rfl inf4 (by decide) 2 rfl rfl ?_ | refine A_field rfl rfl 66 _ 0 rfl ud66 rfl inf3 (by decide) 0 rfl rfl ?_)) | refine A_load rfl rfl 4 _ rfl ud4 rfl rfl rfl rfl ?_ | (refine kL 1386 rfl ?_; refine A_cl rfl rfl Try.func43 rfl (cH) ?_) | refine AL.nil ?_)) | ((with_reducible refine kRG ?_); (first | refine R_field rfl rfl 66 _ 0 rfl ud66 rfl inf3 (by decide) 0 rfl rfl ?_ | refine R_load rfl rfl 3 _ rfl ud3 rfl rfl rfl rfl ?_ | (refine kR 0 rfl ?_; (first | refine R_mt rfl rfl rfl rfl ?_ | refine R_move rfl rfl _ (.inl rfl) (y := .ptr _ _) rfl ?_)) | (refine kR 31 rfl ?_; refine R_nilc rfl rfl _ rfl rfl rfl ?_) | (refine kR 2244 rfl ?_; (first | refine R_field rfl rfl 70 _ 1 rfl ud70 rfl inf24 (by decide) 4 rfl rfl ?_ | refine R_field rfl rfl 70 _ 0 rfl ud70 rfl inf29 (by decide) 0 rfl rfl ?_)) | refine R_field rfl rfl 24 _ 9 rfl ud24 rfl inf3 (by decide) 9 rfl rfl ?_ | (refine kR 12 rfl ?_; refine R_min rfl rfl _ _ _ rfl rfl rfl ?_) | (refine kR 105 rfl ?_; (first | refine R_cmp (d := 41) rfl rfl (c := false) .geq 3 3 _ _ rfl rfl rfl (by exact congrArg some (decide_eq_false (by (try (dsimp only; fail_if_success done)); omega))) ?_ | refine R_add rfl rfl 3 3 _ _ rfl rfl rfl (by exact wi) ?_)) | refine R_field rfl rfl 29 _ 1 rfl ud29 rfl inf25 (by decide) 1 rfl rfl ?_ | refine R_load rfl rfl 25 _ rfl ud25 rfl rfl rfl rfl ?_ | (refine kR 2126 rfl ?_; refine R_build rfl rfl 66 _ rfl ud66 inf66 [(0, 1), (1, 1), (2, 1), (3, 1), (4, 1)] (by kernel_rfl) (zs := [.t (.v (.int .i64 0)), .t (.v (.int .i64 0)), .t (.v (.bool false)), .t (.v (.bool false)), AV.nl]) rfl (.cons rfl (.cons rfl (.cons rfl .nil))) (cs := [_, _, _, _, _]) rfl ?_) | (refine kR 806 rfl ?_; refine R_idx_sl rfl rfl 25 _ _ rfl ud25 inf66 rfl rfl (by (simp; omega)) rfl (by omega) _ (by with_reducible exact Int.toNat_natCast _) (by omega) ?_) | (refine kR 2115 rfl ?_; refine R_store_rp rfl rfl 66 _ _ rfl inf66 (by decide) rfl rfl (by exact map_get (by assumption)) rfl rfl rfl (Nat.le_of_ble_eq_true rfl) (by exact map_set (f := tCh) (x := ⟨g + 1, cap, true, false, []⟩)) qN ?_) | refine RG.nil ⟨by kernel_rfl, ?_⟩)) | (with_reducible (first | refine wk0 ?_ | refine wk1 ?_ | refine wk2 ?_ | refine wk3 ?_ | refine wk6 ?_ | refine wk9 ?_ | refine wkb ?_ | refine wkd ?_)) | refine kct rfl ?_ | refine kcf rfl ?_ | with_reducible refine AW.at_region _ ?_ | refine AW.at_draw 8 mixed 0 [[], [0], [], [2], [2, 3], [2, 3, 4], [2, 3, 4, 5], [2, 3, 4, 5, 6], [0, 1, 2, 3, 4, 5, 6, 7]] qR ?_ | refine AW.at_draw 10 mixed 0 [[], [0], [0, 1], [0, 1, 2], [0, 1, 2, 3], [], [], [6], [6, 7], [], [6, 7, 8, 9], [0, 1, 2, 3, 4, 5, 6, 7, 8, 9, 10], [0, 1, 2, 3, 4, 5, 6, 7, 8, 9, 10, 11]] qR ?_)
          all_goals first | (exfalso; omega) | (exact Fin.q Try.results61 (.cons (.agg rfl rfl ud50 rfl inf50 (us := [_, _, _, _]) rfl rfl) .nil) [])
      · have e : q = m := by omega
        subst e
        have hix := ixF_none (okO c) h.chans fun j b hb => hno j (by have := get_lt hb; omega) b hb
        rw [hix, if_neg (by omega)] at hR
        rw [← hm, List.take_length]
        subst hR
        generalize (h.chans.any fun x => !x.used) = sp
        dsimp only
        cases sp
        all_goals
          repeat' (first | ((with_reducible refine kAL ?_); (first | refine A_mt rfl rfl rfl rfl ?_ | refine A_cmp (d := 27) rfl rfl (c := false) .lss 3 3 _ _ rfl rfl rfl (by exact congrArg some (decide_eq_false (by (try (dsimp only; fail_if_success done)); omega))) ?_ | (refine kL 1614 rfl ?_; refine A_build rfl rfl 50 _ rfl ud50 inf50 [(0, 1), (1, 1), (2, 1), (3, 1)] (by kernel_rfl) (zs := [.t (.v (.int .i64 0)), .t (.v (.int .i64 0)), .t (.v (.int .i64 0)), .t (.v (.int .i64 0))]) rfl (.cons rfl .nil) (cs := [_, _, _, _]) rfl ?_) | refine A_store rfl rfl 50 _ _ rfl inf50 rfl rfl rfl rfl (Nat.le_of_ble_eq_true rfl) qN qN ?_ | refine AL.nil ?_)) | (with_reducible (first | refine wk0 ?_ | refine wk2 ?_ | refine wk3 ?_ | refine wk4 ?_ | refine wk7 ?_ | refine wk9 ?_ | refine wkb ?_ | refine wkc ?_ | refine wkd ?_)) | refine kct rfl ?_ | refine kcf rfl ?_ | with_reducible refine AW.at_region _ ?_)
          all_goals first | (exfalso; omega) | (exact Fin.q Try.results61 (.cons (.agg rfl rfl ud50 rfl inf50 (us := [_, _, _, _]) rfl rfl) .nil) [])
theorem idleC_e (c : DChan) (x : Int) (l : List DWait) (hl : okW l) : Cd Try.prog 91 [aC c, i64 x, .ln (l.map tWt)] (bo (idleC c x l)) [] := idle_c c x l hl
set_option maxHeartbeats 8000000 in
theorem free_c (c : DConf) (m k : Nat) (h : DHall) (t n x : Int) (hx : sI x) (hm : h.chans.length = m) (hk : h.done.length = k) (hm1 : m ≤ 2932031007402) (hw : okW h.waits) :
    Cio Try.prog 62 [.ptr 0 0, i64 x] (stH c m k h t n) (aR (freeH h x).2) (stH c m k (freeH h x).1 t n) := by
  have h1 : (h.chans.map tCh).length = m := by rw [List.length_map, hm]
  have h1k : (h.done.map tR).length = k := by rw [List.length_map, hk]
  have cF := find_c h x hx (by omega)
  unfold freeH
  cases hf : fndOk h x
  · rw [if_neg (by simp)]
    rw [hf, fnd_no hf] at cF
    dsimp only [stH, stB, aR]
    refine Cio.enter' Try.func62 rfl Try.ntmps62 rfl qM ?_
    repeat' (first | ((with_reducible refine kAL ?_); (first | refine A_alloc rfl rfl 50 rfl inf50 (cs := [.t (.v (.int .i64 0)), .t (.v (.int .i64 0)), .t (.v (.int .i64 0)), .t (.v (.int .i64 0))]) rfl (.push qL qN) ?_ | (refine kL 0 rfl ?_; (first | refine A_mt rfl rfl rfl rfl ?_ | refine A_move rfl rfl _ (.inl rfl) (y := .ptr _ _) rfl ?_ | refine A_move rfl rfl _ (.inl rfl) (y := .tup _) rfl ?_)) | (refine kL 31 rfl ?_; refine A_nilc rfl rfl _ rfl rfl rfl ?_) | refine A_field rfl rfl 70 _ 0 rfl ud70 rfl inf29 (by decide) 0 rfl rfl ?_ | refine A_load_agg rfl rfl 29 _ rfl ud29 rfl inf29 rfl rfl (us' := [_, _, _, _]) rfl rfl ?_ | (refine kL 618 rfl ?_; refine A_cl rfl rfl Try.func19 rfl (cF) ?_) | (refine kL 18 rfl ?_; (first | refine A_extract rfl rfl _ 0 rfl rfl rfl ?_ | refine A_extract rfl rfl _ 1 rfl rfl rfl ?_)) | refine A_as rfl rfl rfl rfl ?_ | refine A_not rfl rfl _ _ rfl rfl ?_ | (refine kL 1614 rfl ?_; refine A_build rfl rfl 50 _ rfl ud50 inf50 [(0, 1), (1, 1), (2, 1), (3, 1)] (by kernel_rfl) (zs := [.t (.v (.int .i64 0)), .t (.v (.int .i64 0)), .t (.v (.int .i64 0)), .t (.v (.int .i64 0))]) rfl (.cons rfl .nil) (cs := [_, _, _, _]) rfl ?_) | refine A_store rfl rfl 50 _ _ rfl inf50 rfl rfl rfl rfl (Nat.le_of_ble_eq_true rfl) qN qN ?_ | refine AL.nil ?_)) | (with_reducible (first | refine wk0 ?_ | refine wk1 ?_ | refine wk2 ?_ | refine wk3 ?_ | refine wk6 ?_ | refine wk9 ?_ | refine wkb ?_)) | refine kct rfl ?_ | with_reducible refine AW.at_region _ ?_)
    all_goals first | (exfalso; omega) | (exact Fin.q Try.results62 (.cons (.agg rfl rfl ud50 rfl inf50 (us := [_, _, _, _]) rfl rfl) .nil) [])
  · obtain ⟨j, ch, e1, e2, hc, hu, hgn, e3, e4, e5⟩ := fnd_yes hf
    rw [if_pos rfl, e3, e4, Int.toNat_natCast]
    rw [hf, e3] at cF
    have cI := idleC_e ch x h.waits hw
    cases hi : idleC ch x h.waits
    · rw [hi] at cI
      rw [if_neg (by simp)]
      obtain ⟨g, cap, used, closed, buf⟩ := ch
      dsimp only [stH, stB, aR, aC] at cI ⊢
      refine Cio.enter' Try.func62 rfl Try.ntmps62 rfl qM ?_
      repeat' (first | ((with_reducible refine kAL ?_); (first | refine A_alloc rfl rfl 50 rfl inf50 (cs := [.t (.v (.int .i64 0)), .t (.v (.int .i64 0)), .t (.v (.int .i64 0)), .t (.v (.int .i64 0))]) rfl (.push qL qN) ?_ | (refine kL 0 rfl ?_; (first | refine A_mt rfl rfl rfl rfl ?_ | refine A_move rfl rfl _ (.inl rfl) (y := .ptr _ _) rfl ?_ | refine A_move rfl rfl _ (.inl rfl) (y := .tup _) rfl ?_)) | (refine kL 31 rfl ?_; refine A_nilc rfl rfl _ rfl rfl rfl ?_) | refine A_field rfl rfl 70 _ 0 rfl ud70 rfl inf29 (by decide) 0 rfl rfl ?_ | refine A_load_agg rfl rfl 29 _ rfl ud29 rfl inf29 rfl rfl (us' := [_, _, _, _]) rfl rfl ?_ | (refine kL 618 rfl ?_; refine A_cl rfl rfl Try.func19 rfl (cF) ?_) | (refine kL 18 rfl ?_; (first | refine A_extract rfl rfl _ 0 rfl rfl rfl ?_ | refine A_extract rfl rfl _ 1 rfl rfl rfl ?_)) | refine A_as rfl rfl rfl rfl ?_ | refine A_not rfl rfl _ _ rfl rfl ?_ | (refine kL 1614 rfl ?_; refine A_build rfl rfl 50 _ rfl ud50 inf50 [(0, 1), (1, 1), (2, 1), (3, 1)] (by kernel_rfl) (zs := [.t (.v (.int .i64 0)), .t (.v (.int .i64 0)), .t (.v (.int .i64 0)), .t (.v (.int .i64 0))]) rfl (.cons rfl .nil) (cs := [_, _, _, _]) rfl ?_) | refine A_store rfl rfl 50 _ _ rfl inf50 rfl rfl rfl rfl (Nat.le_of_ble_eq_true rfl) qN qN ?_ | refine AL.nil ?_)) | ((with_reducible refine kRG ?_); (first | (refine kR 0 rfl ?_; (first | refine R_mt rfl rfl rfl rfl ?_ | refine R_move rfl rfl _ (.inl rfl) (y := .ptr _ _) rfl ?_)) | (refine kR 31 rfl ?_; refine R_nilc rfl rfl _ rfl rfl rfl ?_) | refine R_field rfl rfl 70 _ 0 rfl ud70 rfl inf29 (by decide) 0 rfl rfl ?_ | (refine kR 932 rfl ?_; (first | refine R_field rfl rfl 29 _ 1 rfl ud29 rfl inf25 (by decide) 1 rfl rfl ?_ | refine R_field rfl rfl 29 _ 2 rfl ud29 rfl inf26 (by decide) 2 rfl rfl ?_)) | refine R_load rfl rfl 25 _ rfl ud25 rfl rfl rfl rfl ?_ | (refine kR 806 rfl ?_; refine R_idx_sl rfl rfl 25 _ _ rfl ud25 inf66 rfl rfl (by (simp; omega)) rfl (by omega) _ (by with_reducible exact Int.toNat_natCast _) (by omega) ?_) | refine R_load_rp_agg rfl rfl 66 _ rfl ud66 rfl inf66 rfl rfl (by exact map_get (by assumption)) (us' := [_, _, _, _, _]) rfl rfl ?_ | refine R_load rfl rfl 26 _ rfl ud26 rfl rfl rfl rfl ?_ | (refine kR 2922 rfl ?_; (refine R_cl rfl rfl Try.func91 rfl (cI) ?_; refine ⟨0, _, _, _, rfl, qU, qU, qZ, ?_⟩)) | refine R_not rfl rfl _ _ rfl rfl ?_ | refine R_as rfl rfl rfl rfl ?_ | refine RG.nil ⟨by kernel_rfl, ?_⟩)) | (with_reducible (first | refine wk0 ?_ | refine wk1 ?_ | refine wk2 ?_ | refine wk3 ?_ | refine wk6 ?_ | refine wk9 ?_ | refine wkb ?_)) | refine kct rfl ?_ | refine kcf rfl ?_ | with_reducible refine AW.at_region _ ?_ | refine AW.at_draw 4 mixed 0 [[], [0], [0, 1], [0, 1, 2], [0, 1, 2, 3], [], [0, 1, 2, 3, 4, 5], [0, 1, 2, 3, 4, 5, 6], [], [], [9], [9, 10], [9, 10, 11], [9, 10, 11, 12], [0, 1, 2, 3, 4, 5, 6, 7, 8, 9, 10, 11, 12, 13], [0, 1, 2, 3, 4, 5, 6, 7, 8, 9, 10, 11, 12, 13, 14], [0, 1, 2, 3, 4, 5, 6, 7, 8, 9, 10, 11, 12, 13, 14, 15]] qR ?_)
      all_goals first | (exfalso; omega) | (exact Fin.q Try.results62 (.cons (.agg rfl rfl ud50 rfl inf50 (us := [_, _, _, _]) rfl rfl) .nil) [])
    · rw [hi] at cI
      rw [if_pos rfl]
      obtain ⟨g, cap, used, closed, buf⟩ := ch
      dsimp only [stH, stB, aR, aC, cH] at cI ⊢
      refine Cio.enter' Try.func62 rfl Try.ntmps62 rfl qM ?_
      repeat' (first | ((with_reducible refine kAL ?_); (first | refine A_alloc rfl rfl 50 rfl inf50 (cs := [.t (.v (.int .i64 0)), .t (.v (.int .i64 0)), .t (.v (.int .i64 0)), .t (.v (.int .i64 0))]) rfl (.push qL qN) ?_ | (refine kL 0 rfl ?_; (first | refine A_mt rfl rfl rfl rfl ?_ | refine A_move rfl rfl _ (.inl rfl) (y := .ptr _ _) rfl ?_ | refine A_move rfl rfl _ (.inl rfl) (y := .tup _) rfl ?_)) | (refine kL 31 rfl ?_; refine A_nilc rfl rfl _ rfl rfl rfl ?_) | refine A_field rfl rfl 70 _ 0 rfl ud70 rfl inf29 (by decide) 0 rfl rfl ?_ | refine A_load_agg rfl rfl 29 _ rfl ud29 rfl inf29 rfl rfl (us' := [_, _, _, _]) rfl rfl ?_ | (refine kL 618 rfl ?_; refine A_cl rfl rfl Try.func19 rfl (cF) ?_) | (refine kL 18 rfl ?_; (first | refine A_extract rfl rfl _ 0 rfl rfl rfl ?_ | refine A_extract rfl rfl _ 1 rfl rfl rfl ?_)) | refine A_as rfl rfl rfl rfl ?_ | refine A_not rfl rfl _ _ rfl rfl ?_ | (refine kL 1614 rfl ?_; refine A_build rfl rfl 50 _ rfl ud50 inf50 [(0, 1), (1, 1), (2, 1), (3, 1)] (by kernel_rfl) (zs := [.t (.v (.int .i64 0)), .t (.v (.int .i64 0)), .t (.v (.int .i64 0)), .t (.v (.int .i64 0))]) rfl .nil (cs := [_, _, _, _]) rfl ?_) | refine A_store rfl rfl 50 _ _ rfl inf50 rfl rfl rfl rfl (Nat.le_of_ble_eq_true rfl) qN qN ?_ | refine AL.nil ?_)) | ((with_reducible refine kRG ?_); (first | (refine kR 0 rfl ?_; (first | refine R_mt rfl rfl rfl rfl ?_ | refine R_move rfl rfl _ (.inl rfl) (y := .ptr _ _) rfl ?_)) | (refine kR 31 rfl ?_; refine R_nilc rfl rfl _ rfl rfl rfl ?_) | refine R_field rfl rfl 70 _ 0 rfl ud70 rfl inf29 (by decide) 0 rfl rfl ?_ | (refine kR 932 rfl ?_; (first | refine R_field rfl rfl 29 _ 1 rfl ud29 rfl inf25 (by decide) 1 rfl rfl ?_ | refine R_field rfl rfl 29 _ 2 rfl ud29 rfl inf26 (by decide) 2 rfl rfl ?_)) | refine R_load rfl rfl 25 _ rfl ud25 rfl rfl rfl rfl ?_ | (refine kR 806 rfl ?_; refine R_idx_sl rfl rfl 25 _ _ rfl ud25 inf66 rfl rfl (by (simp; omega)) rfl (by omega) _ (by with_reducible exact Int.toNat_natCast _) (by omega) ?_) | refine R_load_rp_agg rfl rfl 66 _ rfl ud66 rfl inf66 rfl rfl (by exact map_get (by assumption)) (us' := [_, _, _, _, _]) rfl rfl ?_ | refine R_load rfl rfl 26 _ rfl ud26 rfl rfl rfl rfl ?_ | (refine kR 2922 rfl ?_; (refine R_cl rfl rfl Try.func91 rfl (cI) ?_; refine ⟨0, _, _, _, rfl, qU, qU, qZ, ?_⟩)) | refine R_not rfl rfl _ _ rfl rfl ?_ | refine R_as rfl rfl rfl rfl ?_ | refine R_field rfl rfl 66 _ 0 rfl ud66 rfl inf3 (by decide) 0 rfl rfl ?_ | refine R_load_rp rfl rfl 3 _ rfl ud3 rfl rfl rfl (by exact map_get (by assumption)) rfl ?_ | (refine kR 2126 rfl ?_; refine R_build rfl rfl 66 _ rfl ud66 inf66 [(0, 1), (1, 1), (2, 1), (3, 1), (4, 1)] (by kernel_rfl) (zs := [.t (.v (.int .i64 0)), .t (.v (.int .i64 0)), .t (.v (.bool false)), .t (.v (.bool false)), AV.nl]) rfl (.cons rfl .nil) (cs := [_, _, _, _, _]) rfl ?_) | (refine kR 2115 rfl ?_; refine R_store_rp rfl rfl 66 _ _ rfl inf66 (by decide) rfl rfl (by exact map_get (by assumption)) rfl rfl rfl (Nat.le_of_ble_eq_true rfl) (by exact map_set (f := tCh) (x := ⟨g, 0, false, false, []⟩)) qN ?_) | refine RG.nil ⟨by kernel_rfl, ?_⟩)) | (with_reducible (first | refine wk0 ?_ | refine wk1 ?_ | refine wk2 ?_ | refine wk5 ?_ | refine wk9 ?_ | refine wkb ?_ | refine wkd ?_)) | refine kcf rfl ?_ | with_reducible refine AW.at_region _ ?_ | refine AW.at_draw 4 mixed 0 [[], [0], [0, 1], [0, 1, 2], [0, 1, 2, 3], [], [0, 1, 2, 3, 4, 5], [0, 1, 2, 3, 4, 5, 6], [], [], [9], [9, 10], [9, 10, 11], [9, 10, 11, 12], [0, 1, 2, 3, 4, 5, 6, 7, 8, 9, 10, 11, 12, 13], [0, 1, 2, 3, 4, 5, 6, 7, 8, 9, 10, 11, 12, 13, 14], [0, 1, 2, 3, 4, 5, 6, 7, 8, 9, 10, 11, 12, 13, 14, 15]] qR ?_ | refine AW.at_draw 6 mixed 0 [[], [0], [0, 1], [0, 1, 2], [0, 1, 2, 3], [], [], [6], [6, 7], [6, 7, 8], [6, 7, 8, 9], [], [6, 7, 8, 9, 10, 11], [6, 7, 8, 9, 10, 11, 12], [6, 7, 8, 9, 10, 11, 12, 13], [6, 7, 8, 9, 10, 11, 12, 13, 14], [0, 1, 2, 3, 4, 5, 6, 7, 8, 9, 10, 11, 12, 13, 14, 15], [0, 1, 2, 3, 4, 5, 6, 7, 8, 9, 10, 11, 12, 13, 14, 15, 16]] qR ?_)
      all_goals first | (exfalso; omega) | (exact Fin.q Try.results62 (.cons (.agg rfl rfl ud50 rfl inf50 (us := [_, _, _, _]) rfl rfl) .nil) [])
end Go.Proofs.Ytphcebioiipdpaa

