/- Joined: XTSaneQ, XTSaneR, XTArr, XTBegins, XTLaw35o, XTSmall. -/
import Derived.Test.YtphcebioiipdpaaKPh
import Derived.Test.YtphcebioiipdpaaKPg
import Derived.Test.YtphcebioiipdpaaKPc
import Derived.Test.YtphcebioiipdpaaKPe
import Derived.Test.YtphcebioiipdpaaKPj
namespace Go.Proofs.Ytphcebioiipdpaa
set_option linter.unusedVariables false
set_option linter.unusedSimpArgs false
set_option linter.unnecessarySimpa false
open Go.RowKit
theorem doG_5 {c : DChan} {x : Int} {l : List DWait} {d v : Int} (hr : rdyC c x l d = true) :
    (d = 1 ∧ c.closed = false ∧ (fir l 2 x).ok = false ∧ doG c x l d v = ⟨chB c (c.buf ++ [v]), l, ⟨0, 0, 0, 0⟩, []⟩) ∨
    (doG c x l d v = ⟨c, l, ⟨0, 0, 9, 0⟩, []⟩) ∨
    (d = 2 ∧ (fir l 1 x).ok = false ∧ c.buf ≠ [] ∧ doG c x l d v = ⟨chB c (c.buf.drop 1), l, ⟨0, 0, 0, c.buf.headD 0⟩, []⟩) ∨
    ∃ (u m : Nat) (w : DWait) (k : DCase), l[u]? = some w ∧ w.on = true ∧ w.cases[m]? = some k ∧ k.handle = x ∧
      ((d = 1 ∧ k.dir = 2 ∧ doG c x l d v = ⟨c, l.set u w0, ⟨0, 0, 0, 0⟩, [⟨u, ⟨w.seq, m, 0, v⟩⟩]⟩) ∨
       (d = 2 ∧ k.dir = 1 ∧ doG c x l d v = ⟨chB c ((c.buf ++ [k.value]).drop 1), l.set u w0, ⟨0, 0, 0, (c.buf ++ [k.value]).headD 0⟩, [⟨u, ⟨w.seq, m, 0, 0⟩⟩]⟩)) := by
  unfold doG
  rw [if_pos hr]
  rcases rdy_d hr with rfl | rfl
  · rw [if_pos rfl]
    cases hc : c.closed
    · rw [if_neg (by simp)]
      unfold sendG
      cases hk : (fir l 2 x).ok
      · left; rw [if_neg (by simp)]; exact ⟨rfl, rfl, rfl, rfl⟩
      · right; right; right
        obtain ⟨t, m, w, k, e1, e2, hw, hon, hcc, e3, e4⟩ := fir_ok hk
        refine ⟨t, m, w, k, hw, hon, hcc, e4, .inl ⟨rfl, e3, ?_⟩⟩
        rw [if_pos rfl, e1, e2, cutW_yes (cutOk_yes hw hon)]
        unfold thW; rw [e1, Int.toNat_natCast, getD_of hw]
    · right; left; rw [if_pos rfl]
  · rw [if_neg (by first | decide | (dsimp only; decide))]
    cases hp : (decide (0 < (c.buf.length : Int)) || (fir l 1 x).ok)
    · right; left; rw [if_neg (by simp)]
    · rw [if_pos rfl]
      unfold recvG
      cases hk : (fir l 1 x).ok
      · right; right; left
        rw [if_neg (by simp)]
        rw [hk, Bool.or_false] at hp
        have := of_decide_eq_true hp
        exact ⟨rfl, rfl, fun e => by rw [e] at this; exact absurd this (by first | decide | (dsimp only; decide)), rfl⟩
      · right; right; right
        obtain ⟨t, m, w, k, e1, e2, hw, hon, hcc, e3, e4⟩ := fir_ok hk
        refine ⟨t, m, w, k, hw, hon, hcc, e4, .inr ⟨rfl, e3, ?_⟩⟩
        have hv : thV l (fir l 1 x) = k.value := by unfold thV thW; rw [e1, e2, Int.toNat_natCast, Int.toNat_natCast, getD_of hw, getD_of hcc]
        rw [if_pos rfl, e1, e2, hv, cutW_yes (cutOk_yes hw hon)]
        unfold thW; rw [e1, Int.toNat_natCast, getD_of hw]
def evOk (was r : Rst) (q : DReq) : Bool := decide (r ≠ was) && decide (r.code = 0) && decide (q.kind = 3) && decide (r.cas < (q.cases.length : Int))
def evK (r : Rst) (q : DReq) : DCase := q.cases.getD r.cas.toNat default
def fI (p : Nat) (was d : List Rst) (rq : List DReq) (j : Nat) : Option Int := if evOk (was.getD j default) (d.getD j default) (rq.getD j default) && decide ((evK (d.getD j default) (rq.getD j default)).handle = 8 + (p : Int) ∧ (evK (d.getD j default) (rq.getD j default)).dir = 1) then some (evK (d.getD j default) (rq.getD j default)).value else none
def fO (p : Nat) (was d : List Rst) (rq : List DReq) (j : Nat) : Option Int := if evOk (was.getD j default) (d.getD j default) (rq.getD j default) && decide ((evK (d.getD j default) (rq.getD j default)).handle = 8 + (p : Int) ∧ (evK (d.getD j default) (rq.getD j default)).dir ≠ 1) then some (d.getD j default).value else none
def evI (p : Nat) (was d : List Rst) (rq : List DReq) (n : Nat) : List Int := (List.range n).filterMap (fI p was d rq)
def evO (p : Nat) (was d : List Rst) (rq : List DReq) (n : Nat) : List Int := (List.range n).filterMap (fO p was d rq)
theorem fm_next {α : Type} (f : Nat → Option α) (n : Nat) : (List.range (n + 1)).filterMap f = (List.range n).filterMap f ++ (f n).toList := by
  rw [List.range_succ, List.filterMap_append]
  cases h : f n <;> simp [h]
theorem fm_none {α : Type} {f : Nat → Option α} {n : Nat} (h : ∀ j, j < n → f j = none) : (List.range n).filterMap f = [] := by
  rw [List.filterMap_eq_nil_iff]; intro j hj; exact h j (List.mem_range.1 hj)
theorem fm_one {α : Type} {f : Nat → Option α} {j0 : Nat} : ∀ {n : Nat}, j0 < n → (∀ j, j < n → j ≠ j0 → f j = none) → (List.range n).filterMap f = (f j0).toList
  | 0, h, _ => by omega
  | n + 1, h, hn => by
    rw [fm_next]
    by_cases e : j0 = n
    · subst e; rw [fm_none fun j hj => hn j (by omega) (by omega)]; rfl
    · rw [fm_one (by omega) fun j hj => hn j (by omega), hn n (by omega) (Ne.symm e)]; simp
theorem evOk_same {was r : Rst} {q : DReq} (h : r = was) : evOk was r q = false := by unfold evOk; rw [h]; simp
theorem evOk_code {was r : Rst} {q : DReq} (h : r.code ≠ 0) : evOk was r q = false := by unfold evOk; rw [decide_eq_false h]; simp
theorem evOk_kind {was r : Rst} {q : DReq} (h : q.kind ≠ 3) : evOk was r q = false := by unfold evOk; rw [decide_eq_false h]; simp
theorem fI_no {p : Nat} {was d : List Rst} {rq : List DReq} {j : Nat} (h : evOk (was.getD j default) (d.getD j default) (rq.getD j default) = false) : fI p was d rq j = none := by unfold fI; rw [h]; rfl
theorem fO_no {p : Nat} {was d : List Rst} {rq : List DReq} {j : Nat} (h : evOk (was.getD j default) (d.getD j default) (rq.getD j default) = false) : fO p was d rq j = none := by unfold fO; rw [h]; rfl
structure OrdP (I O : List Int) (c : DChan) : Prop where
  z : c.gen = 0 → I = []
  r : ∃ rest, I = O ++ rest ∧ (c.gen = 1 → c.used = true → rest = c.buf)
def Keeps (c c' : DChan) : Prop := (c'.gen = 0 → c.gen = 0) ∧ (c'.gen = 1 → c'.used = true → (c.gen = 1 ∧ c.used = true ∧ c'.buf = c.buf) ∨ (c.gen = 0 ∧ c'.buf = []))
theorem OrdP.keep {I O : List Int} {c c' : DChan} (h : OrdP I O c) (k : Keeps c c') : OrdP I O c' := by
  obtain ⟨rest, e, hr⟩ := h.r
  refine ⟨fun z => h.z (k.1 z), rest, e, fun g u => ?_⟩
  rcases k.2 g u with ⟨a, b, c⟩ | ⟨a, b⟩
  · rw [c]; exact hr a b
  · have := h.z a
    rw [this] at e
    have e2 := List.append_eq_nil_iff.1 e.symm
    rw [b]; exact e2.2
theorem Keeps.rfl' {c : DChan} : Keeps c c := ⟨id, fun g u => .inl ⟨g, u, rfl⟩⟩
theorem fnd_h1 {h : DHall} {x : Int} {p : Nat} (hf : fndOk h x = true) (hp : p ≤ 7) : x = 8 + (p : Int) ↔ fndP h x = p ∧ (chA h (fndP h x)).gen = 1 := by
  obtain ⟨n, c, e1, e2, hc, hu, hg, e3, e4, _⟩ := fnd_yes hf
  rw [e3, e4, hg]
  have hb : 8 ≤ x ∧ x ≤ 32767 := by unfold plOk at e1; exact of_decide_eq_true e1
  obtain ⟨a, b, _⟩ := pl_yes hb.1 hb.2
  rw [a] at e2; rw [b]
  omega
structure Rq (h : DHall) (rq : List DReq) : Prop where
  ln : rq.length = h.waits.length
  wt : ∀ (j : Nat) w, h.waits[j]? = some w → w.on = true → (rq.getD j default).kind = 3 ∧ (rq.getD j default).cases = w.cases
theorem Rq.less {h h' : DHall} {rq : List DReq} (s : Rq h rq) (hl : h'.waits.length = h.waits.length) {t : Nat} {q : DReq} (hs : ∀ (j : Nat) w, h'.waits[j]? = some w → w.on = true → (j ≠ t ∧ h.waits[j]? = some w) ∨ (j = t ∧ q.kind = 3 ∧ q.cases = w.cases)) (ht : t < h.waits.length) : Rq h' (rq.set t q) := by
  refine ⟨by rw [List.length_set, s.ln, hl], fun j w hw ho => ?_⟩
  rcases hs j w hw ho with ⟨h1, h2⟩ | ⟨rfl, h1, h2⟩
  · rw [List.getD_eq_getElem?_getD, List.getElem?_set_ne (Ne.symm h1), ← List.getD_eq_getElem?_getD]; exact s.wt j w h2 ho
  · rw [List.getD_eq_getElem?_getD, List.getElem?_set_self (by rw [s.ln]; exact ht)]; exact ⟨h1, h2⟩
theorem noteL_getD (d : List Rst) (t : Int) (r : Rst) (i : Nat) : (noteL d t r).getD i default = d.getD i default ∨ ((noteL d t r).getD i default = r ∧ (i : Int) = t) := by
  unfold noteL
  split
  · rename_i h
    rw [List.getD_eq_getElem?_getD, List.getD_eq_getElem?_getD, List.getElem?_set]
    split
    · rename_i e
      right
      rw [if_pos (by omega)]
      exact ⟨rfl, by omega⟩
    · left; rfl
  · left; rfl
theorem noteL_self {d : List Rst} {j : Nat} {r : Rst} (h : j < d.length) : (noteL d j r).getD j default = r := getD_of (noteL_get h)
theorem noteL_other {d : List Rst} {t : Int} {r : Rst} {i : Nat} (h : (i : Int) ≠ t) : (noteL d t r).getD i default = d.getD i default := (noteL_getD d t r i).resolve_right fun e => h e.2
theorem tellL_getD (l : List DTold) : ∀ (d : List Rst) (j : Nat), (tellL d l).getD j default = d.getD j default ∨ ∃ x ∈ l, (tellL d l).getD j default = x.result := by
  induction l with
  | nil => intro d j; exact .inl rfl
  | cons x l ih =>
    intro d j
    rcases ih (noteL d x.thread x.result) j with h | ⟨y, hy, h⟩
    · rcases noteL_getD d x.thread x.result j with h2 | ⟨h2, _⟩
      · exact .inl (h.trans h2)
      · exact .inr ⟨x, List.mem_cons_self, h.trans h2⟩
    · exact .inr ⟨y, List.mem_cons_of_mem _ hy, h⟩
theorem tellL_mem (l : List DTold) : ∀ (d : List Rst) (r : Rst), r ∈ tellL d l → r ∈ d ∨ ∃ x ∈ l, r = x.result := by
  induction l with
  | nil => intro d r h; exact .inl h
  | cons x l ih =>
    intro d r h
    rcases ih _ r h with h2 | ⟨y, hy, h2⟩
    · rcases noteL_mem h2 with h3 | h3
      · exact .inl h3
      · exact .inr ⟨x, List.mem_cons_self, h3⟩
    · exact .inr ⟨y, List.mem_cons_of_mem _ hy, h2⟩
def Qu (was d : List Rst) (rq : List DReq) (i : Nat) : Prop := d.getD i default = was.getD i default ∨ (d.getD i default).code ≠ 0 ∨ (rq.getD i default).kind ≠ 3
theorem Qu.ev {was d : List Rst} {rq : List DReq} {i : Nat} (h : Qu was d rq i) : evOk (was.getD i default) (d.getD i default) (rq.getD i default) = false := by
  rcases h with h | h | h
  · exact evOk_same h
  · exact evOk_code h
  · exact evOk_kind h
theorem Qu.note {was d : List Rst} {rq : List DReq} {j : Nat} {x : Rst} (h : ∀ i, Qu was d rq i) (hx : x.code ≠ 0 ∨ (rq.getD j default).kind ≠ 3) (i : Nat) : Qu was (noteL d j x) rq i := by
  rcases noteL_getD d j x i with e | ⟨e, ei⟩
  · unfold Qu; rw [e]; exact h i
  · unfold Qu; rw [e]
    rcases hx with hx | hx
    · exact .inr (.inl hx)
    · have : i = j := by omega
      subst this
      exact .inr (.inr hx)
theorem Qu.note' {was d : List Rst} {rq : List DReq} {t : Int} {x : Rst} (h : ∀ i, Qu was d rq i) (hx : x.code ≠ 0) (i : Nat) : Qu was (noteL d t x) rq i := by
  rcases noteL_getD d t x i with e | ⟨e, ei⟩
  · unfold Qu; rw [e]; exact h i
  · unfold Qu; rw [e]; exact .inr (.inl hx)
theorem Qu.same (was : List Rst) (rq : List DReq) (i : Nat) : Qu was was rq i := .inl rfl
theorem ord_quiet {p th : Nat} {was d : List Rst} {rq : List DReq} {I O : List Int} {c c' : DChan} (o : OrdP I O c) (k : Keeps c c') (hq : ∀ i : Nat, Qu was d rq i) : OrdP (I ++ evI p was d rq th) (O ++ evO p was d rq th) c' := by
  rw [show evI p was d rq th = [] from fm_none fun j _ => fI_no (hq j).ev, show evO p was d rq th = [] from fm_none fun j _ => fO_no (hq j).ev, List.append_nil, List.append_nil]
  exact o.keep k
theorem fI_at {p : Nat} {was d : List Rst} {rq : List DReq} {j : Nat} {x : Rst} {q : DReq} {k : DCase} (hx : d.getD j default = x) (hq : rq.getD j default = q) (he : evOk (was.getD j default) x q = true) (hk : evK x q = k) : fI p was d rq j = (if k.handle = 8 + (p : Int) ∧ k.dir = 1 then some k.value else none) ∧ fO p was d rq j = (if k.handle = 8 + (p : Int) ∧ k.dir ≠ 1 then some x.value else none) := by
  unfold fI fO
  rw [hx, hq, he, hk]
  simp only [Bool.true_and, decide_eq_true_eq, and_self]
theorem evOk_yes {was r : Rst} {q : DReq} (h1 : r ≠ was) (h2 : r.code = 0) (h3 : q.kind = 3) (h4 : r.cas < (q.cases.length : Int)) : evOk was r q = true := by unfold evOk; rw [decide_eq_true h1, decide_eq_true h2, decide_eq_true h3, decide_eq_true h4]; rfl
theorem ord_one {h : DHall} (s : Sn h) {rq : List DReq} (R : Rq h rq) {j : Nat} {w : DWait} (hw : h.waits[j]? = some w) (ho : w.on = false) {n : Int} (hn : ∀ x ∈ h.done, x.seq < n) {r : DReq} (hk3 : r.kind = 3) {p0 : Nat} {k : DCase} (hp0 : r.cases[p0]? = some k) (hf : fndOk h k.handle = true) (hr : rdyK h k = true) {p : Nat} (hp : p ≤ 7) {I O : List Int} (o : OrdP I O (chA h p)) :
    OrdP (I ++ evI p h.done (noteL (oneH h p0 k).1.done j ⟨n, (oneH h p0 k).2.cas, (oneH h p0 k).2.code, (oneH h p0 k).2.value⟩) (rq.set j r) h.done.length) (O ++ evO p h.done (noteL (oneH h p0 k).1.done j ⟨n, (oneH h p0 k).2.cas, (oneH h p0 k).2.code, (oneH h p0 k).2.value⟩) (rq.set j r) h.done.length) (chA (oneH h p0 k).1 p) := by
  have hjw := get_lt hw
  have hdl := s.dn.ln
  have hjd : j < h.done.length := by omega
  have hrj : (rq.set j r).getD j default = r := getD_of (List.getElem?_set_self (by rw [R.ln]; exact hjw))
  have hro : ∀ i, i ≠ j → (rq.set j r).getD i default = rq.getD i default := fun i hi => by rw [List.getD_eq_getElem?_getD, List.getElem?_set_ne (Ne.symm hi), ← List.getD_eq_getElem?_getD]
  obtain ⟨P, c, f1, f2, hc, hu, hg, f3, f4, f5⟩ := fnd_yes hf
  have h8 := fnd_h1 hf hp
  rw [f3, f4] at h8
  unfold rdyK at hr
  rw [f3, f4] at hr
  -- the caller's own event
  have hown : ∀ (v : Int), evOk (h.done.getD j default) ⟨n, p0, 0, v⟩ r = true ∧ evK ⟨n, p0, 0, v⟩ r = k := fun v => by
    refine ⟨evOk_yes (fun e => ?_) rfl hk3 ?_, ?_⟩
    · have := hn _ (getD_mem hjd : h.done.getD j default ∈ h.done)
      rw [← e] at this
      exact absurd this (by simp)
    · have := get_lt hp0; dsimp only; omega
    · unfold evK; dsimp only; rw [Int.toNat_natCast, getD_of hp0]
  have hch : ∀ (c' : DChan) (tk : Int) (ws : List DWait) (dn : List Rst), chA ⟨tk, h.chans.set P c', ws, dn⟩ p = if p = P then c' else chA h p := fun _ _ _ _ => chA_set (h := h) f5 rfl p
  unfold oneH gotH
  rw [f3, f4, Int.toNat_natCast]
  rcases doG_5 hr with ⟨hd, hcl, hfi, hG⟩ | hG | ⟨hd, hfi, hb, hG⟩ | ⟨u, m, w', kk, hw', hon, hm, hkh, hG⟩
  · -- into the buffer
    rw [hG]
    dsimp only [tellL, List.foldl]
    have hx : (noteL h.done (j : Int) ⟨n, p0, 0, 0⟩).getD j default = ⟨n, p0, 0, 0⟩ := noteL_self hjd
    obtain ⟨eI, eO⟩ := fI_at (p := p) hx hrj (hown 0).1 (hown 0).2
    have hoth : ∀ i, i < h.done.length → i ≠ j → evOk (h.done.getD i default) ((noteL h.done (j : Int) ⟨n, p0, 0, 0⟩).getD i default) ((rq.set j r).getD i default) = false := fun i _ hi => evOk_same (noteL_other (by omega))
    have gI : evI p h.done (noteL h.done (j : Int) ⟨n, p0, 0, 0⟩) (rq.set j r) h.done.length = _ := fm_one hjd fun i hi hne => fI_no (hoth i hi hne)
    have gO : evO p h.done (noteL h.done (j : Int) ⟨n, p0, 0, 0⟩) (rq.set j r) h.done.length = _ := fm_one hjd fun i hi hne => fO_no (hoth i hi hne)
    rw [if_neg (fun e => e.2 hd)] at eO
    rw [gI, gO, eI, eO, hch]
    by_cases hh : k.handle = 8 + (p : Int)
    · obtain ⟨e1, e2⟩ := h8.1 hh
      have e1' : p = P := by omega
      subst e1'
      rw [if_pos ⟨hh, hd⟩, if_pos rfl]
      rw [f4] at o
      obtain ⟨rest, e3, e4⟩ := o.r
      have := e4 e2 hu
      refine ⟨fun z => by dsimp only [chB] at z; omega, rest ++ [k.value], ?_, fun _ _ => ?_⟩
      · simp [e3, Option.toList]
      · rw [this]; rfl
    · rw [if_neg (fun e => hh e.1)]
      dsimp only [Option.toList]
      rw [List.append_nil, List.append_nil]
      split
      · rename_i e; subst e
        rw [f4] at o
        exact o.keep ⟨fun e => e, fun e _ => absurd (h8.2 ⟨rfl, e⟩) hh⟩
      · exact o
  · -- closed
    rw [hG]
    dsimp only [tellL, List.foldl]
    refine ord_quiet o ?_ (Qu.note (Qu.same _ _) (.inl (by first | decide | (dsimp only; decide))))
    rw [hch]
    split
    · rename_i e; subst e; rw [f4]; exact Keeps.rfl'
    · exact Keeps.rfl'
  · -- out of the buffer
    rw [hG]
    dsimp only [tellL, List.foldl]
    have hx : (noteL h.done (j : Int) ⟨n, p0, 0, c.buf.headD 0⟩).getD j default = ⟨n, p0, 0, c.buf.headD 0⟩ := noteL_self hjd
    obtain ⟨eI, eO⟩ := fI_at (p := p) hx hrj (hown _).1 (hown _).2
    have hoth : ∀ i, i < h.done.length → i ≠ j → evOk (h.done.getD i default) ((noteL h.done (j : Int) ⟨n, p0, 0, c.buf.headD 0⟩).getD i default) ((rq.set j r).getD i default) = false := fun i _ hi => evOk_same (noteL_other (by omega))
    have gI : evI p h.done (noteL h.done (j : Int) ⟨n, p0, 0, c.buf.headD 0⟩) (rq.set j r) h.done.length = _ := fm_one hjd fun i hi hne => fI_no (hoth i hi hne)
    have gO : evO p h.done (noteL h.done (j : Int) ⟨n, p0, 0, c.buf.headD 0⟩) (rq.set j r) h.done.length = _ := fm_one hjd fun i hi hne => fO_no (hoth i hi hne)
    rw [if_neg (fun e => by omega)] at eI
    rw [gI, gO, eI, eO, hch]
    by_cases hh : k.handle = 8 + (p : Int)
    · obtain ⟨e1, e2⟩ := h8.1 hh
      have e1' : p = P := by omega
      subst e1'
      rw [if_pos ⟨hh, by omega⟩, if_pos rfl]
      rw [f4] at o
      obtain ⟨rest, e3, e4⟩ := o.r
      have := e4 e2 hu
      obtain ⟨b, bs, hbs⟩ := List.exists_cons_of_ne_nil hb
      refine ⟨fun z => by dsimp only [chB] at z; omega, bs, ?_, fun _ _ => ?_⟩
      · simp [e3, this, hbs, Option.toList]
      · dsimp only [chB]; rw [hbs]; rfl
    · rw [if_neg (fun e => hh e.1)]
      dsimp only [Option.toList]
      rw [List.append_nil, List.append_nil]
      split
      · rename_i e; subst e
        rw [f4] at o
        exact o.keep ⟨fun e => e, fun e _ => absurd (h8.2 ⟨rfl, e⟩) hh⟩
      · exact o
  · -- with one that waits
    have hju : u ≠ j := by rintro rfl; rw [hw] at hw'; cases hw'; rw [ho] at hon; cases hon
    have hud : u < h.done.length := by have := get_lt hw'; omega
    obtain ⟨rk, rc⟩ := R.wt u w' hw' hon
    have hfk : fndOk h kk.handle = true := by rw [hkh]; exact hf
    have hmem := List.mem_of_getElem? hm
    have hwas : (h.done.getD u default).code = 14 := ((s.dn.cd u w' _ hw' (by rw [List.getD_eq_getElem?_getD, List.getElem?_eq_getElem hud]; rfl)).1.1 hon)
    have hoth' : ∀ (x y : Rst) (i : Nat), i ≠ j → i ≠ u → (noteL (noteL h.done (u : Int) x) (j : Int) y).getD i default = h.done.getD i default := fun x y i h1 h2 => by rw [noteL_other (by omega), noteL_other (by omega)]
    have hatU : ∀ (x y : Rst), (noteL (noteL h.done (u : Int) x) (j : Int) y).getD u default = x := fun x y => by rw [noteL_other (by omega), noteL_self hud]
    have hatJ : ∀ (x y : Rst), (noteL (noteL h.done (u : Int) x) (j : Int) y).getD j default = y := fun x y => noteL_self (by rw [noteL_len]; exact hjd)
    have hothers : ∀ (v : Int), evOk (h.done.getD u default) ⟨w'.seq, m, 0, v⟩ (rq.getD u default) = true ∧ evK ⟨w'.seq, m, 0, v⟩ (rq.getD u default) = kk := fun v => by
      refine ⟨evOk_yes (fun e => ?_) rfl rk ?_, ?_⟩
      · rw [← e] at hwas; exact absurd hwas (by simp)
      · have := get_lt hm; rw [rc]; dsimp only; omega
      · unfold evK; dsimp only; rw [Int.toNat_natCast, rc, getD_of hm]
    rcases hG with ⟨hd, hkd, hG⟩ | ⟨hd, hkd, hG⟩
    · -- the caller sends
      rw [hG]
      dsimp only [tellL, List.foldl]
      obtain ⟨jI, jO⟩ := fI_at (p := p) (hatJ ⟨w'.seq, m, 0, k.value⟩ ⟨n, p0, 0, 0⟩) hrj (hown 0).1 (hown 0).2
      obtain ⟨uI, uO⟩ := fI_at (p := p) (hatU ⟨w'.seq, m, 0, k.value⟩ ⟨n, p0, 0, 0⟩) (hro u hju) (hothers k.value).1 (hothers k.value).2
      rw [if_neg (fun e => by omega)] at uI
      rw [if_neg (fun e => e.2 hd)] at jO
      have gI : evI p h.done (noteL (noteL h.done (u : Int) ⟨w'.seq, m, 0, k.value⟩) (j : Int) ⟨n, p0, 0, 0⟩) (rq.set j r) h.done.length = _ := fm_one hjd fun i hi hne => by
        by_cases e : i = u
        · subst e; exact uI
        · exact fI_no (evOk_same (hoth' _ _ i hne e))
      have gO : evO p h.done (noteL (noteL h.done (u : Int) ⟨w'.seq, m, 0, k.value⟩) (j : Int) ⟨n, p0, 0, 0⟩) (rq.set j r) h.done.length = _ := fm_one hud fun i hi hne => by
        by_cases e : i = j
        · subst e; exact jO
        · exact fO_no (evOk_same (hoth' _ _ i e hne))
      rw [gI, gO, jI, uO, hch]
      by_cases hh : k.handle = 8 + (p : Int)
      · obtain ⟨e1, e2⟩ := h8.1 hh
        have e1' : p = P := by omega
        subst e1'
        rw [if_pos ⟨hh, hd⟩, if_pos ⟨by rw [hkh]; exact hh, by omega⟩, if_pos rfl]
        rw [f4] at o
        obtain ⟨rest, e3, e4⟩ := o.r
        have := e4 e2 hu
        have hbe : c.buf = [] := by have := (s.rd u w' hw' hon kk hmem).rc (by omega); rw [hkh, f3, f4] at this; exact this
        refine ⟨fun z => by omega, [], ?_, fun _ _ => hbe.symm⟩
        simp [e3, this, hbe, Option.toList]
      · rw [if_neg (fun e => hh e.1), if_neg (fun e => hh (by rw [← hkh]; exact e.1))]
        dsimp only [Option.toList]
        rw [List.append_nil, List.append_nil]
        split
        · rename_i e; subst e
          rw [f4] at o
          exact o
        · exact o
    · -- the caller receives
      rw [hG]
      dsimp only [tellL, List.foldl]
      generalize hv : (c.buf ++ [kk.value]).headD 0 = v
      obtain ⟨jI, jO⟩ := fI_at (p := p) (hatJ ⟨w'.seq, m, 0, 0⟩ ⟨n, p0, 0, v⟩) hrj (hown v).1 (hown v).2
      obtain ⟨uI, uO⟩ := fI_at (p := p) (hatU ⟨w'.seq, m, 0, 0⟩ ⟨n, p0, 0, v⟩) (hro u hju) (hothers 0).1 (hothers 0).2
      rw [if_neg (fun e => by omega)] at uO
      rw [if_neg (fun e => by omega)] at jI
      have gI : evI p h.done (noteL (noteL h.done (u : Int) ⟨w'.seq, m, 0, 0⟩) (j : Int) ⟨n, p0, 0, v⟩) (rq.set j r) h.done.length = _ := fm_one hud fun i hi hne => by
        by_cases e : i = j
        · subst e; exact jI
        · exact fI_no (evOk_same (hoth' _ _ i e hne))
      have gO : evO p h.done (noteL (noteL h.done (u : Int) ⟨w'.seq, m, 0, 0⟩) (j : Int) ⟨n, p0, 0, v⟩) (rq.set j r) h.done.length = _ := fm_one hjd fun i hi hne => by
        by_cases e : i = u
        · subst e; exact uO
        · exact fO_no (evOk_same (hoth' _ _ i hne e))
      rw [gI, gO, jO, uI, hch]
      by_cases hh : k.handle = 8 + (p : Int)
      · obtain ⟨e1, e2⟩ := h8.1 hh
        have e1' : p = P := by omega
        subst e1'
        rw [if_pos ⟨by rw [hkh]; exact hh, hkd⟩, if_pos ⟨hh, by omega⟩, if_pos rfl]
        rw [f4] at o
        obtain ⟨rest, e3, e4⟩ := o.r
        have := e4 e2 hu
        refine ⟨fun z => by dsimp only [chB] at z; omega, (c.buf ++ [kk.value]).drop 1, ?_, fun _ _ => rfl⟩
        subst hv
        rw [e3, this]
        dsimp only [Option.toList]
        cases c.buf <;> simp
      · rw [if_neg (fun e => hh (by rw [← hkh]; exact e.1)), if_neg (fun e => hh e.1)]
        dsimp only [Option.toList]
        rw [List.append_nil, List.append_nil]
        split
        · rename_i e; subst e
          rw [f4] at o
          exact o.keep ⟨fun e => e, fun e _ => absurd (h8.2 ⟨rfl, e⟩) hh⟩
        · exact o
theorem ord_apply {c : DConf} {h : DHall} (s : Sn h) {rq : List DReq} (R : Rq h rq) {j : Nat} {w : DWait} (hw : h.waits[j]? = some w) (ho : w.on = false) {n : Int} (hn : ∀ x ∈ h.done, x.seq < n) (r : DReq) {p : Nat} (hp : p ≤ 7) (hpl : p < h.chans.length) {I O : List Int} (o : OrdP I O (chA h p)) :
    OrdP (I ++ evI p h.done (applyH c h j n r).done (rq.set j r) h.done.length) (O ++ evO p h.done (applyH c h j n r).done (rq.set j r) h.done.length) (chA (applyH c h j n r) p) := by
  have hjw := get_lt hw
  have hrj : (rq.set j r).getD j default = r := getD_of (List.getElem?_set_self (by rw [R.ln]; exact hjw))
  have stay : ∀ x : Rst, x.code ≠ 0 ∨ r.kind ≠ 3 → OrdP (I ++ evI p h.done (noteL h.done j x) (rq.set j r) h.done.length) (O ++ evO p h.done (noteL h.done j x) (rq.set j r) h.done.length) (chA h p) := fun x hx =>
    ord_quiet o Keeps.rfl' (Qu.note (Qu.same _ _) (by rw [hrj]; exact hx))
  have eA : ∀ g : DHall, chA ⟨g.ticket, g.chans, g.waits, noteL g.done j ⟨n, 0, 0, 0⟩⟩ p = chA g p := fun _ => rfl
  unfold applyH callH
  split
  · -- open
    rename_i hk
    have hk' : r.kind ≠ 3 := by omega
    unfold openH; split
    · exact stay _ (.inr hk')
    · split
      · rename_i h0
        obtain ⟨a, ha, hpa⟩ := ixF_get (okO c) h.chans h0
        generalize ixF (okO c) h.chans = ix at *
        obtain ⟨q, rfl⟩ : ∃ q : Nat, ix = q := ⟨ix.toNat, by omega⟩
        rw [Int.toNat_natCast] at ha
        have hA : chA h (q : Int) = a := by unfold chA; rw [Int.toNat_natCast, getD_of ha]
        have hpa' : a.used = false ∧ a.gen < min c.gens 4095 := by unfold okO at hpa; simpa using hpa
        have hov := s.ov a (List.mem_of_getElem? ha)
        refine ord_quiet o ?_ (Qu.note (Qu.same _ _) (.inr (by rw [hrj]; exact hk')))
        have hch : ∀ (c' : DChan) (tk : Int) (ws : List DWait) (dn : List Rst), chA ⟨tk, h.chans.set q c', ws, dn⟩ p = if p = q then c' else chA h p := fun _ _ _ _ => chA_set (h := h) (get_lt ha) rfl p
        dsimp only [cH]
        rw [Int.toNat_natCast, hch, hA]
        split
        · rename_i e; subst e
          rw [hA]
          refine ⟨fun e => ?_, fun e _ => .inr ⟨?_, rfl⟩⟩
          · dsimp only at e; have := hov.2.2.1; omega
          · dsimp only at e; omega
        · exact Keeps.rfl'
      · exact stay _ (.inr hk')
  · split
    · -- free
      rename_i hk
      have hk' : r.kind ≠ 3 := by omega
      unfold freeH; split
      · rename_i hf
        obtain ⟨P, c0, p1, p2, hc, hu, hg, e3, e4, hpl'⟩ := fnd_yes hf
        split
        · rw [e3, e4]
          refine ord_quiet o ?_ (Qu.note (Qu.same _ _) (.inr (by rw [hrj]; exact hk')))
          have hch : ∀ (c' : DChan) (tk : Int) (ws : List DWait) (dn : List Rst), chA ⟨tk, h.chans.set P c', ws, dn⟩ p = if p = P then c' else chA h p := fun _ _ _ _ => chA_set (h := h) hpl' rfl p
          dsimp only [cH]
          rw [Int.toNat_natCast, hch]
          split
          · rename_i e; subst e
            rw [e4]
            exact ⟨fun e => e, fun _ e => by cases e⟩
          · exact Keeps.rfl'
        · exact stay _ (.inr hk')
      · exact stay _ (.inr hk')
    · split
      · -- a select
        rename_i hk3
        unfold chooseH; split
        · rename_i hE
          exact stay _ (.inl hE)
        · rename_i hE
          obtain ⟨h3, h3', h4, h5⟩ := casesE_0 (Decidable.not_not.1 hE)
          split
          · rename_i h0
            obtain ⟨k, hkk, hrk⟩ := ixF_get (rdyK h) r.cases h0
            generalize ixF (rdyK h) r.cases = ix at *
            obtain ⟨p0, rfl⟩ : ∃ p0 : Nat, ix = p0 := ⟨ix.toNat, by omega⟩
            rw [Int.toNat_natCast] at hkk ⊢
            rw [getD_of hkk]
            exact ord_one s R hw ho hn hk3 hkk (h5 k (List.mem_of_getElem? hkk)) hrk hp o
          · split
            · exact stay _ (.inl (by dsimp only; omega))
            · split
              · exact stay _ (.inl (by dsimp only; omega))
              · split
                · exact stay _ (.inl (by dsimp only; omega))
                · exact stay _ (.inl (by dsimp only; omega))
      · rename_i hk3
        split
        · -- a close
          unfold closeH; split
          · rename_i hf
            obtain ⟨P, c0, p1, p2, hc, hu, hg, e3, e4, hpl'⟩ := fnd_yes hf
            rw [e3, e4]
            have hgen := shutG_gen c0 r.arg h.waits hu
            refine ord_quiet o ?_ (Qu.note (fun i => ?_) (.inr (by rw [hrj]; exact hk3)))
            · have hch : ∀ (c' : DChan) (tk : Int) (ws : List DWait) (dn : List Rst), chA ⟨tk, h.chans.set P c', ws, dn⟩ p = if p = P then c' else chA h p := fun _ _ _ _ => chA_set (h := h) hpl' rfl p
              dsimp only
              rw [Int.toNat_natCast, hch]
              split
              · rename_i e; subst e
                rw [e4]
                exact ⟨fun e => by rw [hgen.1] at e; exact e, fun e _ => .inl ⟨by rw [hgen.1] at e; exact e, hu, hgen.2.2.2⟩⟩
              · exact Keeps.rfl'
            · rcases tellL_getD (shutG c0 r.arg h.waits).told h.done i with e | ⟨x, hx, e⟩
              · exact .inl e
              · refine .inr (.inl ?_)
                dsimp only
                rw [e]
                unfold shutG at hx
                split at hx
                · obtain ⟨t, -, rfl⟩ := List.mem_map.1 hx
                  unfold shT; dsimp only; decide
                · cases hx
          · exact stay _ (.inr hk3)
        · split
          · exact stay _ (.inr hk3)
          · split
            · unfold cancelH; split
              · exact ord_quiet o Keeps.rfl' (Qu.note (Qu.note' (Qu.same _ _) (by first | decide | (dsimp only; decide))) (.inr (by rw [hrj]; exact hk3)))
              · exact stay _ (.inr hk3)
            · exact stay _ (.inr hk3)
end Go.Proofs.Ytphcebioiipdpaa


namespace Go.Proofs.Ytphcebioiipdpaa
set_option linter.unusedVariables false
set_option linter.unusedSimpArgs false
set_option linter.unnecessarySimpa false
open Go.RowKit
theorem apply_on {c : DConf} {h : DHall} {j : Nat} {w : DWait} (hw : h.waits[j]? = some w) (ho : w.on = false) {n : Int} {r : DReq} {i : Nat} {v : DWait} (hv : (applyH c h j n r).waits[i]? = some v) (hon : v.on = true) : (i ≠ j ∧ h.waits[i]? = some v) ∨ (i = j ∧ r.kind = 3 ∧ r.cases = v.cases) := by
  have key : ∀ {v : DWait}, h.waits[i]? = some v → v.on = true → (i ≠ j ∧ h.waits[i]? = some v) ∨ (i = j ∧ r.kind = 3 ∧ r.cases = v.cases) := fun {v} hv hon => .inl ⟨fun e => (by rw [e, hw] at hv; cases hv; rw [ho] at hon; cases hon), hv⟩
  change (callH c h j n r).1.waits[i]? = some v at hv
  unfold callH at hv
  split at hv
  · unfold openH at hv; repeat' split at hv
    all_goals exact key hv hon
  · split at hv
    · unfold freeH at hv; repeat' split at hv
      all_goals exact key hv hon
    · split at hv
      · rename_i hk3
        unfold chooseH at hv; split at hv
        · exact key hv hon
        · split at hv
          · unfold oneH gotH at hv
            dsimp only at hv
            generalize (r.cases.getD (ixF (rdyK h) r.cases).toNat default) = k at hv
            rcases doG_all (chA h (fndP h k.handle)) k.handle h.waits k.dir k.value with ⟨_, e, _⟩ | ⟨t, m, u, z, _, _, hu, _, _, e, _⟩
            · rw [e] at hv; exact key hv hon
            · rw [e, List.getElem?_set] at hv
              split at hv
              · split at hv
                · cases hv; cases hon
                · cases hv
              · exact key hv hon
          · split at hv
            · exact key hv hon
            · split at hv
              · exact key hv hon
              · split at hv
                · rename_i hp
                  dsimp only at hv
                  rw [putW_yes hp, List.getElem?_set] at hv
                  split at hv
                  · rename_i e
                    split at hv
                    · cases hv; exact .inr ⟨e.symm, hk3, rfl⟩
                    · cases hv
                  · exact key hv hon
                · exact key hv hon
      · split at hv
        · unfold closeH at hv; split at hv
          · unfold shutG at hv
            dsimp only at hv
            split at hv
            · exact key (cuts_sub _ hv hon) hon
            · exact key hv hon
          · exact key hv hon
        · split at hv
          · exact key hv hon
          · split at hv
            · unfold cancelH at hv; split at hv
              · exact key (cut_sub hv hon) hon
              · exact key hv hon
            · exact key hv hon
theorem onS_mem {l : List DWait} {h : Int} {z : Int} (hz : z ∈ onS l h) : ∃ (n : Nat) (w : DWait), z = n ∧ l[n]? = some w ∧ w.on = true := by
  have hm := isort_mem.1 hz
  have : ∀ k, k ≤ l.length → z ∈ onK l h k → ∃ (n : Nat) (w : DWait), z = n ∧ l[n]? = some w ∧ w.on = true := by
    intro k
    induction k with
    | zero => intro _ hm; cases hm
    | succ k ih =>
      intro hk hm
      obtain ⟨a, ha⟩ : ∃ a, l[k]? = some a := ⟨_, List.getElem?_eq_getElem (by omega)⟩
      rw [onK_next ha] at hm
      split at hm
      · rename_i hc
        rcases List.mem_append.1 hm with hm | hm
        · exact ih (by omega) hm
        · rw [List.mem_singleton] at hm
          simp only [Bool.and_eq_true] at hc
          exact ⟨k, a, hm, ha, hc.1⟩
      · exact ih (by omega) hm
  exact this l.length (Nat.le_refl _) hm
structure RFine (n : Int) (r : Rst) : Prop where
  s : r.seq ≤ n
  c : r.code = 0 → 0 ≤ r.cas
def RFines (n : Int) (d : List Rst) : Prop := ∀ r ∈ d, RFine n r
theorem RFines.note {n : Int} {d : List Rst} (h : RFines n d) (t : Int) {r : Rst} (hr : RFine n r) : RFines n (noteL d t r) := fun x hx => by
  rcases noteL_mem hx with e | e
  · exact h x e
  · rw [e]; exact hr
theorem RFines.tell {n : Int} {d : List Rst} (h : RFines n d) {l : List DTold} (hl : ∀ x ∈ l, RFine n x.result) : RFines n (tellL d l) := fun x hx => by
  rcases tellL_mem l d x hx with e | ⟨y, hy, e⟩
  · exact h x e
  · rw [e]; exact hl y hy
theorem apply_fines {c : DConf} {h : DHall} (s : Sn h) {j : Nat} {n : Int} {r : DReq} (hf : RFines n h.done) : RFines n (applyH c h j n r).done := by
  have wseq : ∀ (t : Nat) w, h.waits[t]? = some w → w.on = true → w.seq ≤ n := fun t w hw ho => by
    have hl := s.dn.ln
    have ht := get_lt hw
    obtain ⟨x, hx⟩ : ∃ x, h.done[t]? = some x := ⟨_, List.getElem?_eq_getElem (by omega)⟩
    have := (s.dn.cd t w x hw hx).2 ho
    rw [← this]
    exact (hf x (List.mem_of_getElem? hx)).s
  have own : ∀ (cas code value : Int), (code = 0 → 0 ≤ cas) → RFine n ⟨n, cas, code, value⟩ := fun _ _ _ h => ⟨Int.le_refl _, h⟩
  unfold applyH
  suffices hh : RFines n (callH c h j n r).1.done ∧ ((callH c h j n r).2.code = 0 → 0 ≤ (callH c h j n r).2.cas) from hh.1.note _ (own _ _ _ hh.2)
  unfold callH
  split
  · unfold openH; repeat' split
    all_goals exact ⟨hf, fun _ => Int.le_refl _⟩
  · split
    · unfold freeH; repeat' split
      all_goals exact ⟨hf, fun _ => Int.le_refl _⟩
    · split
      · unfold chooseH; split
        · exact ⟨hf, fun _ => Int.le_refl _⟩
        · split
          · rename_i h0
            unfold oneH gotH
            dsimp only
            generalize (r.cases.getD (ixF (rdyK h) r.cases).toNat default) = k
            refine ⟨?_, fun _ => h0⟩
            rcases doG_all (chA h (fndP h k.handle)) k.handle h.waits k.dir k.value with ⟨e, _⟩ | ⟨t, m, u, z, _, _, hu, hon, e, _⟩
            · rw [e]; exact hf
            · rw [e]
              refine hf.tell fun x hx => ?_
              rw [List.mem_singleton] at hx
              subst hx
              exact ⟨wseq t u hu hon, fun _ => by dsimp only; omega⟩
          · split
            · exact ⟨hf, fun _ => Int.le_refl _⟩
            · split
              · exact ⟨hf, fun _ => Int.le_refl _⟩
              · split
                all_goals exact ⟨hf, fun _ => Int.le_refl _⟩
      · split
        · unfold closeH; split
          · refine ⟨?_, fun _ => Int.le_refl _⟩
            unfold shutG
            dsimp only
            split
            · refine hf.tell fun x hx => ?_
              obtain ⟨t, ht, rfl⟩ := List.mem_map.1 hx
              obtain ⟨m, u, rfl, hu, hon⟩ := onS_mem ht
              unfold shT
              dsimp only
              rw [Int.toNat_natCast, getD_of hu]
              exact ⟨wseq m u hu hon, fun e => absurd e (by dsimp only; decide)⟩
            · exact hf
          · exact ⟨hf, fun _ => Int.le_refl _⟩
        · split
          · refine ⟨hf, fun _ => ?_⟩
            dsimp only
            unfold lookH
            repeat' split
            all_goals exact Int.le_refl _
          · split
            · unfold cancelH; split
              · rename_i hm
                refine ⟨hf.note _ ?_, fun _ => Int.le_refl _⟩
                unfold mayCut at hm
                simp only [Bool.and_eq_true, decide_eq_true_eq] at hm
                obtain ⟨⟨h1, -⟩, h3⟩ := hm
                unfold cutOk at h1
                simp only [decide_eq_true_eq] at h1
                obtain ⟨t, ht⟩ : ∃ t : Nat, r.arg = t := ⟨r.arg.toNat, by omega⟩
                rw [ht, Int.toNat_natCast] at h1 h3
                obtain ⟨u, hu⟩ : ∃ u, h.waits[t]? = some u := ⟨_, List.getElem?_eq_getElem (by omega)⟩
                rw [getD_of hu] at h1 h3
                have := wseq t u hu h1.2.2
                exact ⟨by dsimp only; omega, fun e => absurd e (by dsimp only; decide)⟩
              · exact ⟨hf, fun _ => Int.le_refl _⟩
            · exact ⟨hf, fun _ => Int.le_refl _⟩
def oR (th : Nat) (c : DConf) (l : List DMove) : Nat → List DReq
  | 0 => List.replicate th ⟨0, 0, 0, false, []⟩
  | k + 1 => if mayGo (runH c l k) (l.getD k default).thread then (oR th c l k).set (l.getD k default).thread.toNat (l.getD k default).req else oR th c l k
def oI (th : Nat) (c : DConf) (l : List DMove) (p : Nat) : Nat → List Int
  | 0 => []
  | k + 1 => if mayGo (runH c l k) (l.getD k default).thread then oI th c l p k ++ evI p (runH c l k).done (runH c l (k + 1)).done (oR th c l (k + 1)) th else oI th c l p k
def oO (th : Nat) (c : DConf) (l : List DMove) (p : Nat) : Nat → List Int
  | 0 => []
  | k + 1 => if mayGo (runH c l k) (l.getD k default).thread then oO th c l p k ++ evO p (runH c l k).done (runH c l (k + 1)).done (oR th c l (k + 1)) th else oO th c l p k
theorem mayGo_ex {h : DHall} {t : Int} (e : mayGo h t = true) : ∃ (j : Nat) (w : DWait), t = j ∧ j < h.waits.length ∧ h.waits[j]? = some w ∧ w.on = false := by
  unfold mayGo at e
  simp only [Bool.and_eq_true, decide_eq_true_eq, Bool.not_eq_true'] at e
  obtain ⟨⟨h1, h2⟩, h3⟩ := e
  obtain ⟨j, rfl⟩ : ∃ j : Nat, t = j := ⟨t.toNat, by omega⟩
  obtain ⟨w, hw⟩ : ∃ w, h.waits[j]? = some w := ⟨_, List.getElem?_eq_getElem (by omega)⟩
  rw [Int.toNat_natCast, getD_of hw] at h3
  exact ⟨j, w, rfl, by omega, hw, h3⟩
structure OInv (th : Nat) (c : DConf) (l : List DMove) (k : Nat) : Prop where
  rq : Rq (runH c l k) (oR th c l k)
  fi : RFines k (runH c l k).done
  od : ∀ p, p ≤ 7 → p < (runH c l k).chans.length → OrdP (oI th c l p k) (oO th c l p k) (chA (runH c l k) p)
theorem oInv (th : Nat) (c : DConf) (l : List DMove) (hth : thN c = th) (hS : ∀ k, Sn (runH c l k)) : ∀ k, OInv th c l k
  | 0 => by
    have off : ∀ w ∈ (startH c).waits, w = ⟨false, 0, 0, []⟩ := fun w hw => List.eq_of_mem_replicate hw
    refine ⟨⟨?_, fun j w hw ho => ?_⟩, fun r hr => ?_, fun p _ hp => ⟨fun _ => rfl, [], rfl, fun _ _ => ?_⟩⟩
    · show (List.replicate th _).length = (startH c).waits.length
      rw [List.length_replicate, (startH_ln c).w, hth]
    · rw [off w (List.mem_of_getElem? hw)] at ho; cases ho
    · have : r = ⟨0, 0, 0, 0⟩ := List.eq_of_mem_replicate hr
      rw [this]; exact ⟨Int.le_refl _, fun _ => Int.le_refl _⟩
    · have hm : chA (runH c l 0) p ∈ stC c.start (plN c) (plN c) := by
        unfold chA; rw [Int.toNat_natCast]; exact getD_mem hp
      exact (stC_mem hm).1.symm
  | k + 1 => by
    have s := oInv th c l hth hS k
    have hsn := hS k
    obtain ⟨-, ln⟩ := runH_bd c l k
    by_cases hm : mayGo (runH c l k) (l.getD k default).thread = true
    · have e1 : runH c l (k + 1) = applyH c (runH c l k) (l.getD k default).thread ((k : Int) + 1) (l.getD k default).req := by
        show (if mayGo (runH c l k) (l.getD k default).thread then _ else _) = _; rw [if_pos hm]
      have e2 : oR th c l (k + 1) = (oR th c l k).set (l.getD k default).thread.toNat (l.getD k default).req := by
        show (if mayGo (runH c l k) (l.getD k default).thread then _ else _) = _; rw [if_pos hm]
      have e3 : ∀ p, oI th c l p (k + 1) = oI th c l p k ++ evI p (runH c l k).done (runH c l (k + 1)).done (oR th c l (k + 1)) th := fun p => by
        show (if mayGo (runH c l k) (l.getD k default).thread then _ else _) = _; rw [if_pos hm]
      have e4 : ∀ p, oO th c l p (k + 1) = oO th c l p k ++ evO p (runH c l k).done (runH c l (k + 1)).done (oR th c l (k + 1)) th := fun p => by
        show (if mayGo (runH c l k) (l.getD k default).thread then _ else _) = _; rw [if_pos hm]
      obtain ⟨j, w, ht, hj, hw, ho⟩ := mayGo_ex hm
      rw [ht] at e1 e2
      rw [Int.toNat_natCast] at e2
      have hn : ∀ x ∈ (runH c l k).done, x.seq < ((k : Int) + 1) := fun x hx => by have := (s.fi x hx).s; omega
      have hf : RFines ((k : Int) + 1) (runH c l k).done := fun x hx => ⟨by have := (s.fi x hx).s; omega, (s.fi x hx).c⟩
      have hd : th = (runH c l k).done.length := by rw [ln.d, hth]
      refine ⟨?_, ?_, fun p hp hpl => ?_⟩
      · rw [e1, e2]
        exact s.rq.less (applyH_wlen ..) (fun i v hv hon => apply_on hw ho hv hon) hj
      · rw [e1]
        have := apply_fines (c := c) (j := j) (r := (l.getD k default).req) hsn hf
        intro x hx
        exact this x hx
      · rw [e3, e4, e2, e1]
        rw [e1, (applyH_len c (runH c l k) j ((k : Int) + 1) (l.getD k default).req).1] at hpl
        have hA := ord_apply (c := c) hsn s.rq hw ho hn (l.getD k default).req hp hpl (s.od p hp hpl)
        rw [← hd] at hA
        exact hA
    · have e1 : runH c l (k + 1) = runH c l k := by
        show (if mayGo (runH c l k) (l.getD k default).thread then _ else _) = _; rw [if_neg hm]
      have e2 : oR th c l (k + 1) = oR th c l k := by
        show (if mayGo (runH c l k) (l.getD k default).thread then _ else _) = _; rw [if_neg hm]
      have e3 : ∀ p, oI th c l p (k + 1) = oI th c l p k := fun p => by
        show (if mayGo (runH c l k) (l.getD k default).thread then _ else _) = _; rw [if_neg hm]
      have e4 : ∀ p, oO th c l p (k + 1) = oO th c l p k := fun p => by
        show (if mayGo (runH c l k) (l.getD k default).thread then _ else _) = _; rw [if_neg hm]
      refine ⟨by rw [e1, e2]; exact s.rq, ?_, fun p hp hpl => ?_⟩
      · rw [e1]; intro x hx; exact ⟨by have := (s.fi x hx).s; omega, (s.fi x hx).c⟩
      · rw [e3, e4, e1]; rw [e1] at hpl; exact s.od p hp hpl
end Go.Proofs.Ytphcebioiipdpaa


namespace Go.Proofs.Ytphcebioiipdpaa
set_option linter.unusedVariables false
set_option linter.unusedSimpArgs false
set_option linter.unnecessarySimpa false
open Go.RowKit
section
variable {P : Program} {ops : Array Oper} {Q : QS} {rest : List Oper} {o : Oper} {n : Fr} {T : Nat → AV} {heap : List Ob} {d : Nat}
theorem run_idxA {t e : TypeId} {len : Nat} (ht : P.underlying t = some (.array len e)) {z : Option Value} {size bytes : Nat} (hI : (P.info? e).map (fun i => (i.zero, i.size, i.bytes)) = some (z, size, bytes)) (kd : IntKind) (J : Nat) (h1 : J < len) (p : Addr) (w : World) :
    (Instr.indexAt t (.pointer (some p)) (.int kd (J : Int))).run P w = .ok (.pointer (some (p.add (J * size)))) w := by
  have he : P.elem t = e := by simp [Program.elem, ht]
  have hl : P.arrayLen t = len := by simp [Program.arrayLen, ht]
  rw [run_indexAt_array w t p kd J (by rw [he, hl]; exact ht), hl, if_pos ⟨by omega, by omega⟩, he, run_size hI]
  rfl
theorem A_idx_arr (hw : wantedA n T ops o = true) (hd : o.dst = some d) (t : TypeId) (x ix : Operand) (ho : o.op = .indexAddr t x ix) {e : TypeId} {len : Nat} (ht : P.underlying t = some (.array len e)) {z : Option Value} {size bytes : Nat} (hI : (P.info? e).map (fun i => (i.zero, i.size, i.bytes)) = some (z, size, bytes))
    {kd : IntKind} {I : Int} (hix : evA n T ix = .t (.v (.int kd I))) (h0I : 0 ≤ I) (J : Nat) (hJ : I.toNat = J) (hlt : J < len) (m : Nat) (hm : J * size = m) {y : AV} (hy : shiftA m (evA n T x) = some y) (k : AL P ops Q rest n (pu T d y) heap) : AL P ops Q (o :: rest) n T heap := by
  obtain rfl : I = (J : Int) := by omega
  subst hm
  refine AL.val hw hd (fun en a w ρ Z Y hR => ?_) k
  obtain ⟨p, h1, h2⟩ := shiftA_open hy (hR.eval x)
  have hvi := hR.eval ix
  rw [hix] at hvi
  generalize hai : a.eval ix = vi at hvi
  cases hvi with
  | t h => cases h with
    | v h => exact ⟨_, val_of (s := Instr.indexAt t (a.eval x) (a.eval ix)) (by unfold execOp; rw [ho]) (by rw [h1, hai]; exact run_idxA ht hI kd J hlt p w), h2⟩
theorem R_idx_arr (hw : wantedA n T ops o = true) (hd : o.dst = some d) (t : TypeId) (x ix : Operand) (ho : o.op = .indexAddr t x ix) {e : TypeId} {len : Nat} (ht : P.underlying t = some (.array len e)) {z : Option Value} {size bytes : Nat} (hI : (P.info? e).map (fun i => (i.zero, i.size, i.bytes)) = some (z, size, bytes))
    {kd : IntKind} {I : Int} (hix : evA n T ix = .t (.v (.int kd I))) (h0I : 0 ≤ I) (J : Nat) (hJ : I.toNat = J) (hlt : J < len) (m : Nat) (hm : J * size = m) {y : AV} (hy : shiftA m (evA n T x) = some y) {F : List Dl → (Nat → AV) → List Ob → Prop} {acc : List Dl} (k : RG P ops n F rest (acc ++ [⟨some d, y, [], []⟩]) (pu T d y) heap) : RG P ops n F (o :: rest) acc T heap :=
  RG.cons hd.symm (fun T' h' hT hH hlen_ => A_idx_arr (by rw [wanted_eqA hT]; exact hw) hd t x ix ho ht hI (by rw [ev_eq hT (by simp [ho, Op.operands, Call.operands])]; exact hix) h0I J hJ hlt m hm (by rw [ev_eq hT (by simp [ho, Op.operands, Call.operands])]; exact hy) (AL.nil ⟨rfl, rfl, rfl⟩)) rfl (by first | rfl | exact hh) k
end
end Go.Proofs.Ytphcebioiipdpaa


namespace Go.Proofs.Ytphcebioiipdpaa
set_option linter.unusedVariables false
set_option linter.unusedSimpArgs false
set_option linter.unnecessarySimpa false
open Go.RowKit
set_option maxHeartbeats 32000000
attribute [local irreducible] AL AW RG Fin C Cd Cio thenQ blockQ retQ
set_option maxRecDepth 100000
set_option maxHeartbeats 1000000 in
theorem begins_c (a b : List Int) (ha : a.length ≤ 1152921504606846976) (hb : b.length ≤ 1152921504606846976) :
    Cd Try.prog 28 [.ln (a.map tI), .ln (b.map tI)] (.t (.v (.bool (decide (b.length ≤ a.length ∧ a.take b.length = b))))) [] := by
  have h1 : (a.map tI).length = a.length := List.length_map _
  have h2 : (b.map tI).length = b.length := List.length_map _
  by_cases h : b.length ≤ a.length
  · refine Cd.enter' Try.func28 rfl Try.ntmps28 rfl ?_
    repeat' (first | ((with_reducible refine kAL ?_); (first | refine A_as rfl rfl rfl rfl ?_ | (refine kL 0 rfl ?_; (first | refine A_mt rfl rfl rfl rfl ?_ | refine A_move rfl rfl _ (.inl rfl) (y := .ln _) rfl ?_)) | refine A_len rfl rfl 22 _ rfl ud22 rfl ?_ | refine A_cmp (d := 9) rfl rfl (c := true) .leq 3 3 _ _ rfl rfl rfl (by exact congrArg some (decide_eq_true (by (try (dsimp only; fail_if_success done)); omega))) ?_ | (refine kL 717 rfl ?_; (refine A_cut rfl rfl 22 _ _ _ rfl ud22 inf3 rfl (by exact each_map (fun _ => rfl)) (by (try simp only [List.length_map]); rfl) (.no _) (.yes rfl (by omega) (by with_reducible exact Int.toNat_natCast _)) (by omega) (by omega) (by (simp only [List.drop_zero, Nat.sub_zero, ← List.map_drop, ← List.map_take]; rfl)) ?_)) | (refine kL 682 rfl ?_; (refine A_cl rfl rfl Try.func21 rfl (ints_c (a.take _) b ?zq0) ?_; (case zq0 => simp; omega))) | refine A_pick rfl rfl _ _ _ rfl rfl rfl rfl rfl ?_ | refine AL.nil ?_)) | with_reducible refine AW.at_region _ ?_ | (with_reducible (first | refine wk0 ?_ | refine wk2 ?_ | refine wk9 ?_ | refine wkb ?_)))
    all_goals first | (exfalso; omega) | (refine Fin.q Try.results28 (.cons (.tmp rfl) .nil) [] (hr := (.t ?_)))
    all_goals simp [h]
  · refine Cd.enter' Try.func28 rfl Try.ntmps28 rfl ?_
    repeat' (first | ((with_reducible refine kAL ?_); (first | refine A_as rfl rfl rfl rfl ?_ | (refine kL 0 rfl ?_; (first | refine A_mt rfl rfl rfl rfl ?_ | refine A_move rfl rfl _ (.inl rfl) (y := .ln _) rfl ?_)) | refine A_len rfl rfl 22 _ rfl ud22 rfl ?_ | refine A_cmp (d := 9) rfl rfl (c := false) .leq 3 3 _ _ rfl rfl rfl (by exact congrArg some (decide_eq_false (by (try (dsimp only; fail_if_success done)); omega))) ?_ | refine A_pick rfl rfl _ _ _ rfl rfl rfl rfl rfl ?_ | refine AL.nil ?_ | refine AL.skip rfl rfl ?_)) | with_reducible refine AW.at_region _ ?_ | (with_reducible (first | refine wk0 ?_ | refine wk2 ?_ | refine wk9 ?_ | refine wkb ?_)))
    all_goals first | (exfalso; omega) | (refine Fin.q Try.results28 (.cons (.tmp rfl) .nil) [] (hr := (.t ?_)))
    all_goals simp [h]
end Go.Proofs.Ytphcebioiipdpaa


namespace Go.Proofs.Ytphcebioiipdpaa
set_option linter.unusedVariables false
set_option linter.unusedSimpArgs false
set_option linter.unnecessarySimpa false
open Go.RowKit
set_option maxHeartbeats 32000000
attribute [local irreducible] AL AW RG Fin C Cd Cio thenQ blockQ retQ
set_option maxRecDepth 100000
theorem evI_len (p : Nat) (was d : List Rst) (rq : List DReq) (n : Nat) : (evI p was d rq n).length ≤ n := by unfold evI; exact Nat.le_trans (List.length_filterMap_le _ _) (by rw [List.length_range]; exact Nat.le_refl _)
theorem evO_len (p : Nat) (was d : List Rst) (rq : List DReq) (n : Nat) : (evO p was d rq n).length ≤ n := by unfold evO; exact Nat.le_trans (List.length_filterMap_le _ _) (by rw [List.length_range]; exact Nat.le_refl _)
theorem evI_next (p : Nat) (was d : List Rst) (rq : List DReq) (n : Nat) : evI p was d rq (n + 1) = evI p was d rq n ++ (fI p was d rq n).toList := fm_next _ n
theorem evO_next (p : Nat) (was d : List Rst) (rq : List DReq) (n : Nat) : evO p was d rq (n + 1) = evO p was d rq n ++ (fO p was d rq n).toList := fm_next _ n
theorem oI_len (th : Nat) (c : DConf) (l : List DMove) (p : Nat) : ∀ k, (oI th c l p k).length ≤ th * k
  | 0 => Nat.le_refl _
  | k + 1 => by
    have h0 := oI_len th c l p k
    unfold oI
    split
    · rw [List.length_append, Nat.mul_succ]
      have := evI_len p (runH c l k).done (runH c l (k + 1)).done (oR th c l (k + 1)) th
      omega
    · rw [Nat.mul_succ]; omega
theorem oO_len (th : Nat) (c : DConf) (l : List DMove) (p : Nat) : ∀ k, (oO th c l p k).length ≤ th * k
  | 0 => Nat.le_refl _
  | k + 1 => by
    have h0 := oO_len th c l p k
    unfold oO
    split
    · rw [List.length_append, Nat.mul_succ]
      have := evO_len p (runH c l k).done (runH c l (k + 1)).done (oR th c l (k + 1)) th
      omega
    · rw [Nat.mul_succ]; omega
structure OrW where
  k : Nat
  n : Nat
  M : List Int
structure OrG where
  a0 : OrW
  a1 : OrW
  a2 : OrW
  b0 : OrW
  b1 : OrW
  b2 : OrW
structure OrQ where
  q : Nat
  g : OrG
def or0 : OrG := ⟨⟨0, 0, []⟩, ⟨0, 0, []⟩, ⟨0, 0, []⟩, ⟨0, 0, []⟩, ⟨0, 0, []⟩, ⟨0, 0, []⟩⟩
def OkW (w : OrW) (X : List Int) : Prop := w.M = X ∧ w.n = X.length
def upI (i p : Nat) (o : Option Int) : List Int := if i < p then o.toList else []
theorem okV_add {k n : Nat} {M X : List Int} (h : OkW ⟨k, n, M⟩ X) (v : Int) : OkW ⟨k + 1, n + 1, M ++ [v]⟩ (X ++ [v]) := by
  obtain ⟨h1, h2⟩ := h
  dsimp only at h1 h2
  subst h1 h2
  exact ⟨rfl, by simp⟩
theorem okV_0 {w : OrW} {X : List Int} (h : OkW w X) : OkW w (X ++ []) := by rw [List.append_nil]; exact h
theorem okV_s {w : OrW} {X : List Int} {i : Nat} {o : Option Int} (h : OkW w X) : OkW w (X ++ upI i 0 o) := by unfold upI; rw [if_neg (Nat.not_lt_zero _), List.append_nil]; exact h
theorem okV_l {k n : Nat} {M X : List Int} (h : OkW ⟨k, n, M⟩ X) {b : Nat} (hb : X.length ≤ b) : n ≤ b ∧ M.length = n ∧ (M.map tI).length = n := by
  obtain ⟨h1, h2⟩ := h
  dsimp only at h1 h2
  subst h1 h2
  exact ⟨hb, rfl, List.length_map _⟩
theorem upI_len (i p : Nat) (o : Option Int) : (upI i p o).length ≤ 1 := by unfold upI; split <;> cases o <;> simp
theorem okV_b {k n : Nat} {M X : List Int} {i p : Nat} {o : Option Int} (h : OkW ⟨k, n, M⟩ (X ++ upI i p o)) (hb : X.length ≤ 505) : n ≤ 506 ∧ M.length = n ∧ (M.map tI).length = n := okV_l h (by rw [List.length_append]; have := upI_len i p o; omega)
theorem okV_up {w : OrW} {X : List Int} {i p : Nat} {o : Option Int} (h : OkW w (X ++ upI i p o)) (hne : i ≠ p) : OkW w (X ++ upI i (p + 1) o) := by
  have : upI i (p + 1) o = upI i p o := by
    unfold upI
    by_cases hi : i < p
    · rw [if_pos hi, if_pos (by omega)]
    · rw [if_neg hi, if_neg (by omega)]
  rw [this]; exact h
theorem okV_hit {k n : Nat} {M X : List Int} {p : Nat} {o : Option Int} {v : Int} (h : OkW ⟨k, n, M⟩ (X ++ upI p p o)) (ho : o = some v) : OkW ⟨k + 1, n + 1, M ++ [v]⟩ (X ++ upI p (p + 1) o) := by
  subst ho
  unfold upI at h ⊢
  rw [if_neg (Nat.lt_irrefl _), List.append_nil] at h
  rw [if_pos (Nat.lt_succ_self _)]
  exact okV_add h v
theorem okV_miss {w : OrW} {X : List Int} {p : Nat} {o : Option Int} (h : OkW w (X ++ upI p p o)) (ho : o = none) : OkW w (X ++ upI p (p + 1) o) := by
  subst ho
  unfold upI at h ⊢
  rw [if_neg (Nat.lt_irrefl _)] at h
  rw [if_pos (Nat.lt_succ_self _)]
  exact h
theorem okV_noI {w : OrW} {A : List Int} {p t : Nat} {was d : List Rst} {rq : List DReq} (h : OkW w (A ++ evI p was d rq t)) (he : evOk (was.getD t default) (d.getD t default) (rq.getD t default) = false) : OkW w (A ++ evI p was d rq (t + 1)) := by
  rw [evI_next, fI_no he]; simpa using h
theorem okV_noO {w : OrW} {A : List Int} {p t : Nat} {was d : List Rst} {rq : List DReq} (h : OkW w (A ++ evO p was d rq t)) (he : evOk (was.getD t default) (d.getD t default) (rq.getD t default) = false) : OkW w (A ++ evO p was d rq (t + 1)) := by
  rw [evO_next, fO_no he]; simpa using h
theorem okV_eI {w : OrW} {A X : List Int} {p t : Nat} {was d : List Rst} {rq : List DReq} (hX : A ++ evI p was d rq t = X) (h : OkW w (X ++ upI p 3 (fI p was d rq t))) (hp : p < 3) : OkW w (A ++ evI p was d rq (t + 1)) := by
  unfold upI at h
  rw [if_pos hp, ← hX, List.append_assoc] at h
  rw [evI_next]; exact h
theorem okV_eO {w : OrW} {A X : List Int} {p t : Nat} {was d : List Rst} {rq : List DReq} (hX : A ++ evO p was d rq t = X) (h : OkW w (X ++ upI p 3 (fO p was d rq t))) (hp : p < 3) : OkW w (A ++ evO p was d rq (t + 1)) := by
  unfold upI at h
  rw [if_pos hp, ← hX, List.append_assoc] at h
  rw [evO_next]; exact h
theorem begins_o {I O : List Int} {c : DChan} (h : OrdP I O c) (hI : I.length ≤ 500) (hO : O.length ≤ 500) : Cd Try.prog 28 [.ln (I.map tI), .ln (O.map tI)] (bo true) [] := by
  have hb := begins_c I O (by omega) (by omega)
  obtain ⟨rest, e, -⟩ := h.r
  rw [decide_eq_true ⟨by rw [e, List.length_append]; omega, by rw [e, List.take_left]⟩] at hb
  exact hb
set_option maxHeartbeats 64000000 in
theorem saneOrder_c (th : Int) (l : List DMove) (hs : ∀ x ∈ l, sMv x) (hq : ∀ x ∈ l, x.req.cases.length ≤ 5864062014805) (hll : l.length ≤ 1152921504606846976) : Cd Try.prog 8 [i64 th, .ln (l.map tMw)] (bo true) [] := by
  have h1 : (l.map tMw).length = l.length := List.length_map _
  have cA := awake35_c
  by_cases hb : th < 1 ∨ 5 < th ∨ 100 < l.length
  · by_cases b1 : th < 1
    · refine Cd.enter' Try.func8 rfl Try.ntmps8 rfl ?_
      repeat' (first | ((with_reducible refine kAL ?_); (first | refine A_as rfl rfl rfl rfl ?_ | refine A_mt rfl rfl rfl rfl ?_ | refine A_cmp (d := 19) rfl rfl (c := true) .lss 3 3 _ _ rfl rfl rfl (by exact congrArg some (decide_eq_true (by (try (dsimp only; fail_if_success done)); omega))) ?_ | (refine kL 19 rfl ?_; refine A_pkt rfl rfl _ _ _ rfl rfl rfl ?_) | (refine kL 810 rfl ?_; refine A_cl rfl rfl Try.func25 rfl (cA) ?_) | refine AL.nil ?_ | refine AL.skip rfl rfl ?_)) | (with_reducible (first | refine wk0 ?_ | refine wk2 ?_ | refine wk3 ?_ | refine wk9 ?_ | refine wkb ?_)) | refine kct rfl ?_ | with_reducible refine AW.at_region _ ?_)
      all_goals first | (exfalso; omega) | (exact Fin.q Try.results8 (.cons (.tmp rfl) .nil) [])
    · by_cases b2 : 5 < th
      all_goals
        refine Cd.enter' Try.func8 rfl Try.ntmps8 rfl ?_
        repeat' (first | ((with_reducible refine kAL ?_); (first | refine A_as rfl rfl rfl rfl ?_ | (refine kL 0 rfl ?_; (first | refine A_mt rfl rfl rfl rfl ?_ | refine A_move rfl rfl _ (.inl rfl) (y := .ln _) rfl ?_)) | (refine kL 105 rfl ?_; (first | refine A_cmp (d := 19) rfl rfl (c := false) .lss 3 3 _ _ rfl rfl rfl (by exact congrArg some (decide_eq_false (by (try (dsimp only; fail_if_success done)); omega))) ?_ | refine A_cmp (d := 22) rfl rfl (c := true) .gtr 3 3 _ _ rfl rfl rfl (by exact congrArg some (decide_eq_true (by (try (dsimp only; fail_if_success done)); omega))) ?_ | refine A_cmp (d := 22) rfl rfl (c := false) .gtr 3 3 _ _ rfl rfl rfl (by exact congrArg some (decide_eq_false (by (try (dsimp only; fail_if_success done)); omega))) ?_ | refine A_cmp (d := 27) rfl rfl (c := true) .gtr 3 3 _ _ rfl rfl rfl (by exact congrArg some (decide_eq_true (by (try (dsimp only; fail_if_success done)); omega))) ?_)) | (refine kL 19 rfl ?_; (first | refine A_pkt rfl rfl _ _ _ rfl rfl rfl ?_ | refine A_pkf rfl rfl _ _ _ rfl rfl rfl ?_)) | refine A_len rfl rfl 56 _ rfl ud56 rfl ?_ | (refine kL 810 rfl ?_; refine A_cl rfl rfl Try.func25 rfl (cA) ?_) | refine AL.nil ?_ | refine AL.skip rfl rfl ?_)) | (with_reducible (first | refine wk0 ?_ | refine wk2 ?_ | refine wk3 ?_ | refine wk9 ?_ | refine wkb ?_)) | refine kct rfl ?_ | with_reducible refine AW.at_region _ ?_)
        all_goals first | (exfalso; omega) | (exact Fin.q Try.results8 (.cons (.tmp rfl) .nil) [])
  · obtain ⟨n, rfl⟩ : ∃ n : Nat, th = n := ⟨th.toNat, by omega⟩
    have c1 := stF_c (c35 n) (by dsimp only [c35]; decide)
    have cm := small35_c n
    change Cd _ _ _ (.agg [i64 (runH (c35 n) l 0).ticket, .t (.lst ((runH (c35 n) l 0).chans.map tCh)), .t (.lst ((runH (c35 n) l 0).waits.map tWt)), .t (.lst ((runH (c35 n) l 0).done.map tR))]) _ at c1
    have hB := runH_bd (c35 n) l
    have hN := @runH_next (c35 n) l
    have hS := runH_sn (c35 n) (by dsimp only [c35]; decide) l
    have hO := oInv n (c35 n) l (c35_n (by omega) (by omega)).2 hS
    rw [(c35_n (by omega) (by omega)).1, (c35_n (by omega) (by omega)).2] at hB
    have hA := apF_c (c35 n)
    have hR0 : oR n (c35 n) l 0 = List.replicate n ⟨0, 0, 0, false, []⟩ := rfl
    have hI0 : ∀ p, oI n (c35 n) l p 0 = [] := fun _ => rfl
    have hO0 : ∀ p, oO n (c35 n) l p 0 = [] := fun _ => rfl
    have hIl := fun p k => oI_len n (c35 n) l p k
    have hOl := fun p k => oO_len n (c35 n) l p k
    have hgo : ∀ {q : Nat} {x : DMove}, l[q]? = some x → mayGo (runH (c35 n) l q) x.thread = true → oR n (c35 n) l (q + 1) = (oR n (c35 n) l q).set x.thread.toNat x.req ∧ (∀ p, oI n (c35 n) l p (q + 1) = oI n (c35 n) l p q ++ evI p (runH (c35 n) l q).done (runH (c35 n) l (q + 1)).done (oR n (c35 n) l (q + 1)) n) ∧ ∀ p, oO n (c35 n) l p (q + 1) = oO n (c35 n) l p q ++ evO p (runH (c35 n) l q).done (runH (c35 n) l (q + 1)).done (oR n (c35 n) l (q + 1)) n := fun {q x} hx hm => by
      have e : l.getD q default = x := getD_of hx
      refine ⟨?_, fun p => ?_, fun p => ?_⟩
      · show (if mayGo (runH (c35 n) l q) (l.getD q default).thread then _ else _) = _; rw [e, if_pos hm]
      · show (if mayGo (runH (c35 n) l q) (l.getD q default).thread then _ else _) = _; rw [e, if_pos hm]
      · show (if mayGo (runH (c35 n) l q) (l.getD q default).thread then _ else _) = _; rw [e, if_pos hm]
    have hst : ∀ {q : Nat} {x : DMove}, l[q]? = some x → mayGo (runH (c35 n) l q) x.thread = false → oR n (c35 n) l (q + 1) = oR n (c35 n) l q ∧ (∀ p, oI n (c35 n) l p (q + 1) = oI n (c35 n) l p q) ∧ ∀ p, oO n (c35 n) l p (q + 1) = oO n (c35 n) l p q := fun {q x} hx hm => by
      have e : l.getD q default = x := getD_of hx
      refine ⟨?_, fun p => ?_, fun p => ?_⟩
      · show (if mayGo (runH (c35 n) l q) (l.getD q default).thread then _ else _) = _; rw [e, if_neg (by simp [hm])]
      · show (if mayGo (runH (c35 n) l q) (l.getD q default).thread then _ else _) = _; rw [e, if_neg (by simp [hm])]
      · show (if mayGo (runH (c35 n) l q) (l.getD q default).thread then _ else _) = _; rw [e, if_neg (by simp [hm])]
    have hRl : ∀ q, (oR n (c35 n) l q).length = n := fun q => by rw [(hO q).rq.ln, (hB q).2.w]
    have hOd := fun q => (hO q).od
    have hFi := fun q => (hO q).fi
    clear hO
    generalize runH (c35 n) l = H at *
    generalize oR n (c35 n) l = R at *
    generalize oI n (c35 n) l = I at *
    generalize oO n (c35 n) l = O at *
    have hn5 : n ≤ 5 := by omega
    have hl100 : l.length ≤ 100 := by omega
    have hbI : ∀ p q, q ≤ l.length → (I p q).length ≤ 500 := fun p q hq => Nat.le_trans (hIl p q) (Nat.le_trans (Nat.mul_le_mul hn5 (Nat.le_trans hq hl100)) (by decide))
    have hbO : ∀ p q, q ≤ l.length → (O p q).length ≤ 500 := fun p q hq => Nat.le_trans (hOl p q) (Nat.le_trans (Nat.mul_le_mul hn5 (Nat.le_trans hq hl100)) (by decide))
    dsimp only [fCf, aCf, aHl, aRq, c35] at *
    refine Cd.enter' Try.func8 rfl Try.ntmps8 rfl ?_
    repeat' (first | ((with_reducible refine kAL ?_); (first | (refine kL 1 rfl ?_; (first | refine A_as rfl rfl rfl rfl ?_ | refine A_move rfl rfl _ (.inr rfl) (y := .sl _ _ _) rfl ?_)) | (refine kL 0 rfl ?_; (first | refine A_mt rfl rfl rfl rfl ?_ | refine A_move rfl rfl _ (.inl rfl) (y := .ln _) rfl ?_)) | (refine kL 105 rfl ?_; (first | refine A_cmp (d := 19) rfl rfl (c := false) .lss 3 3 _ _ rfl rfl rfl (by exact congrArg some (decide_eq_false (by (try (dsimp only; fail_if_success done)); omega))) ?_ | refine A_cmp (d := 22) rfl rfl (c := false) .gtr 3 3 _ _ rfl rfl rfl (by exact congrArg some (decide_eq_false (by (try (dsimp only; fail_if_success done)); omega))) ?_ | refine A_cmp (d := 27) rfl rfl (c := false) .gtr 3 3 _ _ rfl rfl rfl (by exact congrArg some (decide_eq_false (by (try (dsimp only; fail_if_success done)); omega))) ?_)) | (refine kL 19 rfl ?_; refine A_pkf rfl rfl _ _ _ rfl rfl rfl ?_) | refine A_len rfl rfl 56 _ rfl ud56 rfl ?_ | (refine kL 842 rfl ?_; refine A_cl rfl rfl Try.func26 rfl (cm) ?_) | refine A_alloc rfl rfl 24 rfl inf24 (cs := [.t (.v (.int .i64 0)), .t (.v (.int .i64 0)), .t (.v (.int .i64 0)), .t (.v (.int .i64 0)), .t (.v (.int .i64 0)), .t (.v (.int .i64 0)), .t (.v (.int .i64 0)), .t (.v (.int .i64 0)), .t (.v (.int .i64 0)), .t (.v (.int .i64 0)), AV.nl]) rfl (.push qL qN) ?_ | refine A_store rfl rfl 24 _ _ rfl inf24 rfl rfl rfl rfl (Nat.le_of_ble_eq_true rfl) qN qN ?_ | refine A_load_agg rfl rfl 24 _ rfl ud24 rfl inf24 rfl rfl (us' := [_, _, _, _, _, _, _, _, _, _, _]) rfl rfl ?_ | (refine kL 426 rfl ?_; refine A_cl rfl rfl Try.func13 rfl (c1) ?_) | refine A_alloc rfl rfl 29 rfl inf29 (cs := [.t (.v (.int .i64 0)), AV.nl, AV.nl, AV.nl]) rfl (.push qL qN) ?_ | refine A_store rfl rfl 29 _ _ rfl inf29 rfl rfl rfl rfl (Nat.le_of_ble_eq_true rfl) qN qN ?_ | (refine kL 2000 rfl ?_; refine A_make rfl rfl 62 _ _ rfl ud62 inf32 rfl (zs := [(.v (.int .i64 0)), (.v (.int .i64 0)), (.v (.int .i64 0)), (.v (.bool false)), .lst []]) rfl rfl rfl n (by rfl) (by rfl) qB qB (by exact rep_map (f := tRq) (x := ⟨_, _, _, _, []⟩)) (.push qL qN) ?_) | refine A_alloc rfl rfl 63 rfl inf63 (cs := [AV.nl, AV.nl, AV.nl]) rfl (.push qL qN) ?_ | refine AL.nil ?_)) | (with_reducible (first | refine wk0 ?_ | refine wk1 ?_ | refine wk2 ?_ | refine wkd ?_)) | refine kcf rfl ?_ | with_reducible refine AW.at_region _ ?_)
    all_goals first | (exfalso; omega) | skip
    refine AW.wk (Wk.ownB 3 0 rfl rfl 3 1 (.push rfl rfl) rfl) ?_
    refine AW.wk (Wk.ownB 3 1 rfl rfl 3 1 (.push rfl rfl) rfl) ?_
    refine AW.wk (Wk.ownB 3 2 rfl rfl 3 1 (.push rfl rfl) rfl) ?_
    refine AW.wk (Wk.ownB 4 0 rfl rfl 3 1 (.push rfl rfl) rfl) ?_
    refine AW.wk (Wk.ownB 4 1 rfl rfl 3 1 (.push rfl rfl) rfl) ?_
    refine AW.wk (Wk.ownB 4 2 rfl rfl 3 1 (.push rfl rfl) rfl) ?_
    refine AW.loopP (fun (x : OrQ) => x.q ≤ l.length ∧ OkW x.g.a0 (I 0 x.q) ∧ OkW x.g.a1 (I 1 x.q) ∧ OkW x.g.a2 (I 2 x.q) ∧ OkW x.g.b0 (O 0 x.q) ∧ OkW x.g.b1 (O 1 x.q) ∧ OkW x.g.b2 (O 2 x.q)) (fun (x : OrQ) => (pu (pu (pu (pu (pu (pu (pu (pu (pu (fun _ => .any) 0 (i64 n)) 5 (.ptr 0 0)) 6 (.ptr 1 0)) 7 (.sl 2 0 n)) 8 (.ptr 3 0)) 9 (.ptr 4 0)) 36 (.ln (l.map tMw))) 37 (i64 (l.map tMw).length)) 38 (i64 x.q))) (fun (x : OrQ) => [.box 24 [i64 3, i64 n, i64 3, i64 2, i64 4, i64 1, i64 0, i64 9, i64 99, i64 3, .t (.lst ([0, 1].map tI))], .box 29 [i64 (H x.q).ticket, .t (.lst ((H x.q).chans.map tCh)), .t (.lst ((H x.q).waits.map tWt)), .t (.lst ((H x.q).done.map tR))], .row 0 32 5 ((R x.q).map tRq), .box 63 [.sl 5 x.g.a0.k x.g.a0.n, .sl 6 x.g.a1.k x.g.a1.n, .sl 7 x.g.a2.k x.g.a2.n], .box 63 [.sl 8 x.g.b0.k x.g.b0.n, .sl 9 x.g.b1.k x.g.b1.n, .sl 10 x.g.b2.k x.g.b2.n], .row x.g.a0.k 3 1 (x.g.a0.M.map tI), .row x.g.a1.k 3 1 (x.g.a1.M.map tI), .row x.g.a2.k 3 1 (x.g.a2.M.map tI), .row x.g.b0.k 3 1 (x.g.b0.M.map tI), .row x.g.b1.k 3 1 (x.g.b1.M.map tI), .row x.g.b2.k 3 1 (x.g.b2.M.map tI)]) (fun (x : OrQ) => l.length - x.q) (⟨0, or0⟩) ?_ ?_ ?_
    · exact ⟨Nat.zero_le _, ⟨(hI0 0).symm, by rw [hI0]; rfl⟩, ⟨(hI0 1).symm, by rw [hI0]; rfl⟩, ⟨(hI0 2).symm, by rw [hI0]; rfl⟩, ⟨(hO0 0).symm, by rw [hO0]; rfl⟩, ⟨(hO0 1).symm, by rw [hO0]; rfl⟩, ⟨(hO0 2).symm, by rw [hO0]; rfl⟩⟩
    · dsimp only [or0]
      rw [hR0]
      exact Wk.cq 11
    · rintro ⟨q, ⟨⟨k0, n0, M0⟩, ⟨k1, n1, M1⟩, ⟨k2, n2, M2⟩, ⟨k3, n3, M3⟩, ⟨k4, n4, M4⟩, ⟨k5, n5, M5⟩⟩⟩ ⟨hq0, g0, g1, g2, g3, g4, g5⟩
      dsimp only at hq0 g0 g1 g2 g3 g4 g5 ⊢
      obtain ⟨bd, ln⟩ := hB q
      have hwl : ((H q).waits.map tWt).length = n := by rw [List.length_map, ln.w]
      have hwl2 := ln.w
      have hdl : ((H q).done.map tR).length = n := by rw [List.length_map, ln.d]
      have hdl2 := ln.d
      have hRl2 := hRl q
      have hRl3 : ((R q).map tRq).length = n := by rw [List.length_map, hRl2]
      by_cases hi : q < l.length
      · obtain ⟨x, hx⟩ : ∃ x, l[q]? = some x := ⟨_, List.getElem?_eq_getElem hi⟩
        have hxm := List.mem_of_getElem? hx
        have hn := hN hx
        cases hm : mayGo (H q) x.thread
        · -- no call
          obtain ⟨r1, r2, r3⟩ := hst hx hm
          rw [hm, if_neg (by simp)] at hn
          have gg : ∀ {w : OrW} {p : Nat}, OkW w (I p q) → OkW w (I p (q + 1)) := fun h => by rw [r2]; exact h
          have gh : ∀ {w : OrW} {p : Nat}, OkW w (O p q) → OkW w (O p (q + 1)) := fun h => by rw [r3]; exact h
          have hR1 := r1
          clear hA hB hN hgo hst
          obtain ⟨t, ⟨qk, qa, qv, qd, cs⟩⟩ := x
          dsimp only at hn hm
          by_cases ht : 0 ≤ t ∧ t < (n : Int)
          · obtain ⟨j, rfl⟩ : ∃ j : Nat, t = j := ⟨t.toNat, by omega⟩
            obtain ⟨⟨on, tk, sq, wc⟩, hw⟩ : ∃ w, (H q).waits[j]? = some w := ⟨_, List.getElem?_eq_getElem (by omega)⟩
            rw [mayGo_y hw] at hm
            have hon : on = true := by simpa using hm
            subst hon
            generalize hG : H (q + 1) = G at *
            generalize hK : H q = K at *
            generalize hRR : R (q + 1) = R' at *
            generalize hRQ : R q = RQ at *
            repeat' (first | ((with_reducible refine kAL ?_); (first | refine A_as rfl rfl rfl rfl ?_ | refine A_mt rfl rfl rfl rfl ?_ | (refine kL 105 rfl ?_; (first | refine A_cmp (d := 39) rfl rfl (c := true) .lss 3 3 _ _ rfl rfl rfl (by exact congrArg some (decide_eq_true (by (try (dsimp only; fail_if_success done)); omega))) ?_ | refine A_cmp (d := 47) rfl rfl (c := false) .neq 3 3 _ _ rfl rfl rfl (by exact congrArg some (decide_eq_false (by (try (dsimp only; fail_if_success done)); omega))) ?_ | refine A_cmp (d := 53) rfl rfl (c := false) .neq 3 3 _ _ rfl rfl rfl (by exact congrArg some (decide_eq_false (by (try (dsimp only; fail_if_success done)); omega))) ?_ | refine A_cmp (d := 57) rfl rfl (c := false) .lss 3 3 _ _ rfl rfl rfl (by exact congrArg some (decide_eq_false (by (try (dsimp only; fail_if_success done)); omega))) ?_ | refine A_cmp (d := 62) rfl rfl (c := false) .geq 3 3 _ _ rfl rfl rfl (by exact congrArg some (decide_eq_false (by (try (dsimp only; fail_if_success done)); omega))) ?_ | refine A_add rfl rfl 3 3 _ _ rfl rfl rfl (by exact wi) ?_)) | (refine kL 19 rfl ?_; refine A_pkf rfl rfl _ _ _ rfl rfl rfl ?_) | (refine kL 12 rfl ?_; (first | refine A_len rfl rfl 26 _ rfl ud26 rfl ?_ | refine A_len rfl rfl 27 _ rfl ud27 rfl ?_)) | (refine kL 1798 rfl ?_; refine A_idx rfl rfl 56 _ _ rfl ud56 inf59 (by decide) (by exact .inl rfl) rfl (by omega) _ (by with_reducible exact Int.toNat_natCast _) (by exact map_get (by assumption)) rfl (cs' := [_, _, _, _, _, _]) rfl ?_) | refine A_load_lp_agg rfl rfl 59 _ rfl ud59 rfl inf59 rfl (us' := [_, _, _, _, _, _]) rfl rfl ?_ | refine A_alloc rfl rfl 59 rfl inf59 (cs := [.t (.v (.int .i64 0)), .t (.v (.int .i64 0)), .t (.v (.int .i64 0)), .t (.v (.int .i64 0)), .t (.v (.bool false)), AV.nl]) rfl (.push qL qN) ?_ | refine A_store rfl rfl 59 _ _ rfl inf59 rfl rfl rfl rfl (Nat.le_of_ble_eq_true rfl) qN qN ?_ | (refine kL 932 rfl ?_; (first | refine A_field rfl rfl 29 _ 2 rfl ud29 rfl inf26 (by decide) 2 rfl rfl ?_ | refine A_field rfl rfl 29 _ 3 rfl ud29 rfl inf27 (by decide) 3 rfl rfl ?_)) | refine A_load rfl rfl 26 _ rfl ud26 rfl rfl rfl rfl ?_ | refine A_load rfl rfl 27 _ rfl ud27 rfl rfl rfl rfl ?_ | refine A_field rfl rfl 59 _ 0 rfl ud59 rfl inf3 (by decide) 0 rfl rfl ?_ | refine A_load rfl rfl 3 _ rfl ud3 rfl rfl rfl rfl ?_ | (refine kL 838 rfl ?_; refine A_idx rfl rfl 26 _ _ rfl ud26 inf43 (by decide) (by exact .inr rfl) rfl (by omega) _ (by with_reducible exact Int.toNat_natCast _) (by exact map_get (by assumption)) rfl (cs' := [_, _, _, _]) rfl ?_) | refine A_field rfl rfl 43 _ 0 rfl ud43 rfl inf4 (by decide) 0 rfl rfl ?_ | refine A_load_lp rfl rfl 4 _ rfl ud4 rfl rfl rfl ?_ | refine AL.nil ?_)) | (with_reducible (first | refine wk0 ?_ | refine wk1 ?_ | refine wk2 ?_ | refine wk4 ?_ | refine wk7 ?_ | refine wkc ?_ | refine wkd ?_)) | refine kct rfl ?_ | refine kcf rfl ?_ | with_reducible refine AW.at_region _ ?_)
            all_goals first | (exfalso; omega) | skip
            refine ⟨⟨q + 1, ⟨⟨k0, n0, M0⟩, ⟨k1, n1, M1⟩, ⟨k2, n2, M2⟩, ⟨k3, n3, M3⟩, ⟨k4, n4, M4⟩, ⟨k5, n5, M5⟩⟩⟩, ⟨by dsimp only; omega, gg g0, gg g1, gg g2, gh g3, gh g4, gh g5⟩, by dsimp only; omega, ?_⟩
            rw [hG, hn, hRR, hR1]
            exact Wk.cq 11
          · generalize hG : H (q + 1) = G at *
            generalize hK : H q = K at *
            generalize hRR : R (q + 1) = R' at *
            generalize hRQ : R q = RQ at *
            by_cases h0 : 0 ≤ t
            all_goals
              repeat' (first | ((with_reducible refine kAL ?_); (first | refine A_as rfl rfl rfl rfl ?_ | refine A_mt rfl rfl rfl rfl ?_ | (refine kL 105 rfl ?_; (first | refine A_cmp (d := 39) rfl rfl (c := true) .lss 3 3 _ _ rfl rfl rfl (by exact congrArg some (decide_eq_true (by (try (dsimp only; fail_if_success done)); omega))) ?_ | refine A_cmp (d := 47) rfl rfl (c := false) .neq 3 3 _ _ rfl rfl rfl (by exact congrArg some (decide_eq_false (by (try (dsimp only; fail_if_success done)); omega))) ?_ | refine A_cmp (d := 53) rfl rfl (c := false) .neq 3 3 _ _ rfl rfl rfl (by exact congrArg some (decide_eq_false (by (try (dsimp only; fail_if_success done)); omega))) ?_ | refine A_cmp (d := 57) rfl rfl (c := true) .lss 3 3 _ _ rfl rfl rfl (by exact congrArg some (decide_eq_true (by (try (dsimp only; fail_if_success done)); omega))) ?_ | refine A_cmp (d := 57) rfl rfl (c := false) .lss 3 3 _ _ rfl rfl rfl (by exact congrArg some (decide_eq_false (by (try (dsimp only; fail_if_success done)); omega))) ?_ | refine A_cmp (d := 62) rfl rfl (c := true) .geq 3 3 _ _ rfl rfl rfl (by exact congrArg some (decide_eq_true (by (try (dsimp only; fail_if_success done)); omega))) ?_ | refine A_add rfl rfl 3 3 _ _ rfl rfl rfl (by first | exact wi | rfl) ?_)) | (refine kL 19 rfl ?_; (first | refine A_pkt rfl rfl _ _ _ rfl rfl rfl ?_ | refine A_pkf rfl rfl _ _ _ rfl rfl rfl ?_)) | (refine kL 12 rfl ?_; (first | refine A_len rfl rfl 26 _ rfl ud26 rfl ?_ | refine A_len rfl rfl 27 _ rfl ud27 rfl ?_)) | (refine kL 1798 rfl ?_; refine A_idx rfl rfl 56 _ _ rfl ud56 inf59 (by decide) (by exact .inl rfl) rfl (by omega) _ (by with_reducible exact Int.toNat_natCast _) (by exact map_get (by assumption)) rfl (cs' := [_, _, _, _, _, _]) rfl ?_) | refine A_load_lp_agg rfl rfl 59 _ rfl ud59 rfl inf59 rfl (us' := [_, _, _, _, _, _]) rfl rfl ?_ | refine A_alloc rfl rfl 59 rfl inf59 (cs := [.t (.v (.int .i64 0)), .t (.v (.int .i64 0)), .t (.v (.int .i64 0)), .t (.v (.int .i64 0)), .t (.v (.bool false)), AV.nl]) rfl (.push qL qN) ?_ | refine A_store rfl rfl 59 _ _ rfl inf59 rfl rfl rfl rfl (Nat.le_of_ble_eq_true rfl) qN qN ?_ | (refine kL 932 rfl ?_; (first | refine A_field rfl rfl 29 _ 2 rfl ud29 rfl inf26 (by decide) 2 rfl rfl ?_ | refine A_field rfl rfl 29 _ 3 rfl ud29 rfl inf27 (by decide) 3 rfl rfl ?_)) | refine A_load rfl rfl 26 _ rfl ud26 rfl rfl rfl rfl ?_ | refine A_load rfl rfl 27 _ rfl ud27 rfl rfl rfl rfl ?_ | refine A_field rfl rfl 59 _ 0 rfl ud59 rfl inf3 (by decide) 0 rfl rfl ?_ | refine A_load rfl rfl 3 _ rfl ud3 rfl rfl rfl rfl ?_ | refine AL.nil ?_ | refine AL.skip rfl rfl ?_)) | (with_reducible (first | refine wk0 ?_ | refine wk1 ?_ | refine wk2 ?_ | refine wk4 ?_ | refine wk7 ?_ | refine wkc ?_ | refine wkd ?_)) | refine kct rfl ?_ | refine kcf rfl ?_ | with_reducible refine AW.at_region _ ?_)
              all_goals first | (exfalso; omega) | skip
              refine ⟨⟨q + 1, ⟨⟨k0, n0, M0⟩, ⟨k1, n1, M1⟩, ⟨k2, n2, M2⟩, ⟨k3, n3, M3⟩, ⟨k4, n4, M4⟩, ⟨k5, n5, M5⟩⟩⟩, ⟨by dsimp only; omega, gg g0, gg g1, gg g2, gh g3, gh g4, gh g5⟩, by dsimp only; omega, ?_⟩
              rw [hG, hn, hRR, hR1]
              exact Wk.cq 11
        · -- a call
          obtain ⟨r1, r2, r3⟩ := hgo hx hm
          obtain ⟨j, w, ht, hj, hw, ho⟩ := mayGo_ex hm
          rw [hm, if_pos rfl] at hn
          have cP := hA (H q) x.thread ((q : Int) + 1) x.req (bd.okQ (hs x hxm).2 (hq x hxm)) (bd.ok ln (by omega) (by omega) (by omega))
          rw [← hn] at cP
          obtain ⟨bd2, ln2⟩ := hB (q + 1)
          have hel2 := ln2.d
          have hel : ((H (q + 1)).done.map tR).length = n := by rw [List.length_map, ln2.d]
          have hRm2 := hRl (q + 1)
          have hRm3 : ((R (q + 1)).map tRq).length = n := by rw [List.length_map, hRm2]
          have hfi := hFi (q + 1)
          obtain ⟨y, hy⟩ : ∃ y, (R q)[j]? = some y := ⟨_, List.getElem?_eq_getElem (by omega)⟩
          clear hA hN hgo hst hB hn hm bd2 ln2
          obtain ⟨t, ⟨qk, qa, qv, qd, cs⟩⟩ := x
          dsimp only at ht cP r1
          subst ht
          rw [Int.toNat_natCast] at r1
          obtain ⟨on, tk, sq, wc⟩ := w
          dsimp only at ho
          subst ho
          have hjn : j < n := by omega
          generalize hG : H (q + 1) = G at *
          generalize hK : H q = K at *
          generalize hRR : R (q + 1) = R' at *
          generalize hRQ : R q = RQ at *
          repeat' (first | ((with_reducible refine kAL ?_); (first | refine A_as rfl rfl rfl rfl ?_ | (refine kL 0 rfl ?_; (first | refine A_mt rfl rfl rfl rfl ?_ | refine A_move rfl rfl _ (.inl rfl) (y := .sl _ _ _) rfl ?_)) | (refine kL 105 rfl ?_; (first | refine A_cmp (d := 39) rfl rfl (c := true) .lss 3 3 _ _ rfl rfl rfl (by exact congrArg some (decide_eq_true (by (try (dsimp only; fail_if_success done)); omega))) ?_ | refine A_cmp (d := 47) rfl rfl (c := false) .neq 3 3 _ _ rfl rfl rfl (by exact congrArg some (decide_eq_false (by (try (dsimp only; fail_if_success done)); omega))) ?_ | refine A_cmp (d := 53) rfl rfl (c := false) .neq 3 3 _ _ rfl rfl rfl (by exact congrArg some (decide_eq_false (by (try (dsimp only; fail_if_success done)); omega))) ?_ | refine A_cmp (d := 57) rfl rfl (c := false) .lss 3 3 _ _ rfl rfl rfl (by exact congrArg some (decide_eq_false (by (try (dsimp only; fail_if_success done)); omega))) ?_ | refine A_cmp (d := 62) rfl rfl (c := false) .geq 3 3 _ _ rfl rfl rfl (by exact congrArg some (decide_eq_false (by (try (dsimp only; fail_if_success done)); omega))) ?_ | refine A_add rfl rfl 3 3 _ _ rfl rfl rfl (by first | exact wi | rfl) ?_ | refine A_cmp (d := 93) rfl rfl (c := false) .neq 3 3 _ _ rfl rfl rfl (by exact congrArg some (decide_eq_false (by (try (dsimp only; fail_if_success done)); omega))) ?_)) | (refine kL 19 rfl ?_; refine A_pkf rfl rfl _ _ _ rfl rfl rfl ?_) | (refine kL 12 rfl ?_; (first | refine A_len rfl rfl 26 _ rfl ud26 rfl ?_ | refine A_len rfl rfl 27 _ rfl ud27 rfl ?_)) | refine A_load_agg rfl rfl 24 _ rfl ud24 rfl inf24 rfl rfl (us' := [_, _, _, _, _, _, _, _, _, _, _]) rfl rfl ?_ | refine A_alloc rfl rfl 29 rfl inf29 (cs := [.t (.v (.int .i64 0)), AV.nl, AV.nl, AV.nl]) rfl (.push qL qN) ?_ | refine A_store rfl rfl 29 _ _ rfl inf29 rfl rfl rfl rfl (Nat.le_of_ble_eq_true rfl) qN qN ?_ | (refine kL 1798 rfl ?_; refine A_idx rfl rfl 56 _ _ rfl ud56 inf59 (by decide) (by exact .inl rfl) rfl (by omega) _ (by with_reducible exact Int.toNat_natCast _) (by exact map_get (by assumption)) rfl (cs' := [_, _, _, _, _, _]) rfl ?_) | refine A_load_lp_agg rfl rfl 59 _ rfl ud59 rfl inf59 rfl (us' := [_, _, _, _, _, _]) rfl rfl ?_ | refine A_alloc rfl rfl 59 rfl inf59 (cs := [.t (.v (.int .i64 0)), .t (.v (.int .i64 0)), .t (.v (.int .i64 0)), .t (.v (.int .i64 0)), .t (.v (.bool false)), AV.nl]) rfl (.push qL qN) ?_ | refine A_store rfl rfl 59 _ _ rfl inf59 rfl rfl rfl rfl (Nat.le_of_ble_eq_true rfl) qN qN ?_ | (refine kL 932 rfl ?_; (first | refine A_field rfl rfl 29 _ 2 rfl ud29 rfl inf26 (by decide) 2 rfl rfl ?_ | refine A_field rfl rfl 29 _ 3 rfl ud29 rfl inf27 (by decide) 3 rfl rfl ?_)) | refine A_load rfl rfl 26 _ rfl ud26 rfl rfl rfl rfl ?_ | refine A_load rfl rfl 27 _ rfl ud27 rfl rfl rfl rfl ?_ | (refine kL 1892 rfl ?_; (first | refine A_field rfl rfl 59 _ 0 rfl ud59 rfl inf3 (by decide) 0 rfl rfl ?_ | refine A_field rfl rfl 59 _ 1 rfl ud59 rfl inf32 (by decide) 1 rfl rfl ?_)) | refine A_load rfl rfl 3 _ rfl ud3 rfl rfl rfl rfl ?_ | (refine kL 838 rfl ?_; refine A_idx rfl rfl 26 _ _ rfl ud26 inf43 (by decide) (by exact .inr rfl) rfl (by omega) _ (by with_reducible exact Int.toNat_natCast _) (by exact map_get (by assumption)) rfl (cs' := [_, _, _, _]) rfl ?_) | refine A_field rfl rfl 43 _ 0 rfl ud43 rfl inf4 (by decide) 0 rfl rfl ?_ | refine A_load_lp rfl rfl 4 _ rfl ud4 rfl rfl rfl ?_ | refine A_load_agg rfl rfl 29 _ rfl ud29 rfl inf29 rfl rfl (us' := [_, _, _, _]) rfl rfl ?_ | refine A_load_agg rfl rfl 32 _ rfl ud32 rfl inf32 rfl rfl (us' := [_, _, _, _, _]) rfl rfl ?_ | (refine kL 1990 rfl ?_; refine A_idx_sl rfl rfl 62 _ _ rfl ud62 inf32 rfl rfl (by (simp; omega)) rfl (by omega) _ (by with_reducible exact Int.toNat_natCast _) (by omega) ?_) | (refine kL 1027 rfl ?_; refine A_store_rp rfl rfl 32 _ _ rfl inf32 (by decide) rfl rfl (by exact map_get (by assumption)) rfl rfl rfl (Nat.le_of_ble_eq_true rfl) (by exact map_set (f := tRq) (x := ⟨qk, qa, qv, qd, cs⟩)) qN ?_) | (refine kL 330 rfl ?_; refine A_cl rfl rfl Try.func10 rfl (cP) ?_) | refine AL.nil ?_)) | (with_reducible (first | refine wk0 ?_ | refine wk1 ?_ | refine wk2 ?_ | refine wkd ?_)) | refine kct rfl ?_ | refine kcf rfl ?_ | with_reducible refine AW.at_region _ ?_)
          all_goals first | (exfalso; omega) | skip
          refine AW.loopP (fun (x : OrQ) => x.q ≤ n ∧ OkW x.g.a0 (I 0 q ++ evI 0 K.done G.done R' x.q) ∧ OkW x.g.a1 (I 1 q ++ evI 1 K.done G.done R' x.q) ∧ OkW x.g.a2 (I 2 q ++ evI 2 K.done G.done R' x.q) ∧ OkW x.g.b0 (O 0 q ++ evO 0 K.done G.done R' x.q) ∧ OkW x.g.b1 (O 1 q ++ evO 1 K.done G.done R' x.q) ∧ OkW x.g.b2 (O 2 q ++ evO 2 K.done G.done R' x.q)) (fun (x : OrQ) => (pu (pu (pu (pu (pu (pu (pu (pu (pu (pu (pu (pu (pu (fun _ => .any) 0 (i64 n)) 5 (.ptr 0 0)) 6 (.ptr 1 0)) 7 (.sl 2 0 n)) 8 (.ptr 3 0)) 9 (.ptr 4 0)) 36 (.ln (l.map tMw))) 37 (i64 (l.map tMw).length)) 38 (i64 q)) 12 (.ptr 11 0)) 95 (.t (.lst (G.done.map tR)))) 96 (i64 (G.done.map tR).length)) 97 (i64 x.q))) (fun (x : OrQ) => [.box 24 [i64 3, i64 n, i64 3, i64 2, i64 4, i64 1, i64 0, i64 9, i64 99, i64 3, .t (.lst ([0, 1].map tI))], .box 29 [i64 (G).ticket, .t (.lst ((G).chans.map tCh)), .t (.lst ((G).waits.map tWt)), .t (.lst ((G).done.map tR))], .row 0 32 5 ((R').map tRq), .box 63 [.sl 5 x.g.a0.k x.g.a0.n, .sl 6 x.g.a1.k x.g.a1.n, .sl 7 x.g.a2.k x.g.a2.n], .box 63 [.sl 8 x.g.b0.k x.g.b0.n, .sl 9 x.g.b1.k x.g.b1.n, .sl 10 x.g.b2.k x.g.b2.n], .row x.g.a0.k 3 1 (x.g.a0.M.map tI), .row x.g.a1.k 3 1 (x.g.a1.M.map tI), .row x.g.a2.k 3 1 (x.g.a2.M.map tI), .row x.g.b0.k 3 1 (x.g.b0.M.map tI), .row x.g.b1.k 3 1 (x.g.b1.M.map tI), .row x.g.b2.k 3 1 (x.g.b2.M.map tI), .box 29 [i64 (K).ticket, .t (.lst ((K).chans.map tCh)), .t (.lst ((K).waits.map tWt)), .t (.lst ((K).done.map tR))]]) (fun (x : OrQ) => n - x.q) (⟨0, ⟨⟨k0, n0, M0⟩, ⟨k1, n1, M1⟩, ⟨k2, n2, M2⟩, ⟨k3, n3, M3⟩, ⟨k4, n4, M4⟩, ⟨k5, n5, M5⟩⟩⟩) ?_ ?_ ?_
          · exact ⟨Nat.zero_le _, okV_0 g0, okV_0 g1, okV_0 g2, okV_0 g3, okV_0 g4, okV_0 g5⟩
          · dsimp only
            rw [r1]
            exact Wk.cq3 [0, 1, 2, 3, 4, 5, 6, 7, 8, 9, 10, 12]
          · rintro ⟨t, ⟨⟨k0, n0, M0⟩, ⟨k1, n1, M1⟩, ⟨k2, n2, M2⟩, ⟨k3, n3, M3⟩, ⟨k4, n4, M4⟩, ⟨k5, n5, M5⟩⟩⟩ ⟨ht0, m0, m1, m2, m3, m4, m5⟩
            dsimp only at ht0 m0 m1 m2 m3 m4 m5 ⊢
            by_cases hti : t < n
            · obtain ⟨r, hr⟩ : ∃ r, G.done[t]? = some r := ⟨_, List.getElem?_eq_getElem (by omega)⟩
              obtain ⟨w, hwa⟩ : ∃ w, K.done[t]? = some w := ⟨_, List.getElem?_eq_getElem (by omega)⟩
              obtain ⟨qq, hqq⟩ : ∃ qq, R'[t]? = some qq := ⟨_, List.getElem?_eq_getElem (by omega)⟩
              cases he : evOk w r qq
              · have he2 : evOk (K.done.getD t default) (G.done.getD t default) (R'.getD t default) = false := by rw [getD_of hr, getD_of hwa, getD_of hqq]; exact he
                have m0' := okV_noI m0 he2
                have m1' := okV_noI m1 he2
                have m2' := okV_noI m2 he2
                have m3' := okV_noO m3 he2
                have m4' := okV_noO m4 he2
                have m5' := okV_noO m5 he2
                clear m0 m1 m2 m3 m4 m5
                obtain ⟨ra, rb, rc, rd⟩ := r
                obtain ⟨wa, wb, wcc, wd⟩ := w
                obtain ⟨k1', k2', k3', k4', kcs⟩ := qq
                have hkl : (kcs.map tCs).length = kcs.length := List.length_map _
                by_cases e1 : ra = wa ∧ rb = wb ∧ rc = wcc ∧ rd = wd
                · obtain ⟨rfl, rfl, rfl, rfl⟩ := e1
                  repeat' (first | ((with_reducible refine kAL ?_); (first | refine A_as rfl rfl rfl rfl ?_ | refine A_mt rfl rfl rfl rfl ?_ | (refine kL 105 rfl ?_; (first | refine A_add rfl rfl 3 3 _ _ rfl rfl rfl (by first | exact wi | rfl) ?_ | refine A_cmp (d := 98) rfl rfl (c := true) .lss 3 3 _ _ rfl rfl rfl (by exact congrArg some (decide_eq_true (by (try (dsimp only; fail_if_success done)); omega))) ?_)) | (refine kL 870 rfl ?_; refine A_idx rfl rfl 27 _ _ rfl ud27 inf50 (by decide) (by exact .inr rfl) rfl (by omega) _ (by with_reducible exact Int.toNat_natCast _) (by exact map_get (by assumption)) rfl (cs' := [_, _, _, _]) rfl ?_) | refine A_load_lp_agg rfl rfl 50 _ rfl ud50 rfl inf50 rfl (us' := [_, _, _, _]) rfl rfl ?_ | refine A_alloc rfl rfl 50 rfl inf50 (cs := [.t (.v (.int .i64 0)), .t (.v (.int .i64 0)), .t (.v (.int .i64 0)), .t (.v (.int .i64 0))]) rfl (.push qL qN) ?_ | refine A_store rfl rfl 50 _ _ rfl inf50 rfl rfl rfl rfl (Nat.le_of_ble_eq_true rfl) qN qN ?_ | refine AL.nil ?_)) | ((with_reducible refine kRG ?_); (first | refine R_skip rfl rfl ?_ | (refine kR 1602 rfl ?_; (first | refine R_load_agg rfl rfl 50 _ rfl ud50 rfl inf50 rfl rfl (us' := [_, _, _, _]) rfl rfl ?_ | refine R_load_lp_agg rfl rfl 50 _ rfl ud50 rfl inf50 rfl (us' := [_, _, _, _]) rfl rfl ?_)) | refine R_field rfl rfl 29 _ 3 rfl ud29 rfl inf27 (by decide) 3 rfl rfl ?_ | refine R_load rfl rfl 27 _ rfl ud27 rfl rfl rfl rfl ?_ | refine R_mt rfl rfl rfl rfl ?_ | (refine kR 870 rfl ?_; refine R_idx rfl rfl 27 _ _ rfl ud27 inf50 (by decide) (by exact .inr rfl) rfl (by omega) _ (by with_reducible exact Int.toNat_natCast _) (by exact map_get (by assumption)) rfl (cs' := [_, _, _, _]) rfl ?_) | (refine kR 1609 rfl ?_; (refine R_eqs rfl rfl 50 50 _ _ rfl rfl rfl (by kernel_rfl) (fun w => eqs50 9998 _ _ _ _ _ _ _ _ w) (by exact (decide_eq_true ⟨rfl, rfl, rfl, rfl, trivial⟩)) ?_)) | (refine kR 19 rfl ?_; refine R_pkt rfl rfl _ _ _ rfl rfl rfl ?_) | refine RG.nil ⟨by kernel_rfl, ?_⟩)) | (with_reducible (first | refine wk0 ?_ | refine wk1 ?_ | refine wk2 ?_ | refine wk4 ?_ | refine wk7 ?_ | refine wkc ?_ | refine wkd ?_)) | refine kct rfl ?_ | with_reducible refine AW.at_region _ ?_ | refine AW.at_draw 21 mixed 0 [[], [], [1], [], [1, 2, 3], [1, 2, 3, 4], [0, 1, 2, 3, 4, 5], [0, 1, 2, 3, 4, 5, 6], [0, 1, 2, 3, 4, 5, 6, 7], [0, 1, 2, 3, 4, 5, 6, 7, 8], [0, 1, 2, 3, 4, 5, 6, 7, 8, 9], [0, 1, 2, 3, 4, 5, 6, 7, 8, 9, 10], [0, 1, 2, 3, 4, 5, 6, 7, 8, 9, 10, 11], [0, 1, 2, 3, 4, 5, 6, 7, 8, 9, 10, 11, 12], [0, 1, 2, 3, 4, 5, 6, 7, 8, 9, 10, 11, 12], [0, 1, 2, 3, 4, 5, 6, 7, 8, 9, 10, 11, 12, 13, 14], [0, 1, 2, 3, 4, 5, 6, 7, 8, 9, 10, 11, 12, 13, 14, 15], [0, 1, 2, 3, 4, 5, 6, 7, 8, 9, 10, 11, 12, 13, 14, 15, 16], [0, 1, 2, 3, 4, 5, 6, 7, 8, 9, 10, 11, 12, 13, 14, 15, 16, 17], [0, 1, 2, 3, 4, 5, 6, 7, 8, 9, 10, 11, 12, 13, 14, 15, 16, 17, 18], [0, 1, 2, 3, 4, 5, 6, 7, 8, 9, 10, 11, 12, 13, 14, 15, 16, 17, 18, 19], [0, 1, 2, 3, 4, 5, 6, 7, 8, 9, 10, 11, 12, 13, 14, 15, 16, 17, 18, 19, 20], [0, 1, 2, 3, 4, 5, 6, 7, 8, 9, 10, 11, 12, 13, 14, 15, 16, 17, 18, 19, 20, 21], [0, 1, 2, 3, 4, 5, 6, 7, 8, 9, 10, 11, 12, 13, 14, 15, 16, 17, 18, 19, 20], [0, 1, 2, 3, 4, 5, 6, 7, 8, 9, 10, 11, 12, 13, 14, 15, 16, 17, 18, 19, 20], [0, 1, 2, 3, 4, 5, 6, 7, 8, 9, 10, 11, 12, 13, 14, 15, 16, 17, 18, 19, 20, 23, 24], [0, 1, 2, 3, 4, 5, 6, 7, 8, 9, 10, 11, 12, 13, 14, 15, 16, 17, 18, 19, 20, 23, 24, 25], [0, 1, 2, 3, 4, 5, 6, 7, 8, 9, 10, 11, 12, 13, 14, 15, 16, 17, 18, 19, 20, 23, 24, 25, 26], [0, 1, 2, 3, 4, 5, 6, 7, 8, 9, 10, 11, 12, 13, 14, 15, 16, 17, 18, 19, 20, 23, 24, 25, 26, 27], [0, 1, 2, 3, 4, 5, 6, 7, 8, 9, 10, 11, 12, 13, 14, 15, 16, 17, 18, 19, 20, 21, 22, 23, 24, 25, 26, 27, 28], [0, 1, 2, 3, 4, 5, 6, 7, 8, 9, 10, 11, 12, 13, 14, 15, 16, 17, 18, 19, 20, 21, 22, 23, 24, 25, 26, 27, 28, 29]] qR ?_)
                  all_goals first | (exfalso; omega) | skip
                  refine ⟨⟨t + 1, ⟨⟨k0, n0, M0⟩, ⟨k1, n1, M1⟩, ⟨k2, n2, M2⟩, ⟨k3, n3, M3⟩, ⟨k4, n4, M4⟩, ⟨k5, n5, M5⟩⟩⟩, ⟨by dsimp only; omega, m0', m1', m2', m3', m4', m5'⟩, by dsimp only; omega, ?_⟩
                  exact Wk.cq 12
                · by_cases e2 : rc = 0
                  · by_cases e3 : k1' = 3
                    · have e4 : ¬ rb < (kcs.length : Int) := fun e => by
                        have : evOk ⟨wa, wb, wcc, wd⟩ ⟨ra, rb, rc, rd⟩ ⟨k1', k2', k3', k4', kcs⟩ = true := evOk_yes (by simpa using e1) e2 e3 e
                        rw [he] at this; cases this
                      subst e2 e3
                      repeat' (first | ((with_reducible refine kAL ?_); (first | refine A_as rfl rfl rfl rfl ?_ | refine A_mt rfl rfl rfl rfl ?_ | (refine kL 105 rfl ?_; (first | refine A_add rfl rfl 3 3 _ _ rfl rfl rfl (by first | exact wi | rfl) ?_ | refine A_cmp (d := 98) rfl rfl (c := true) .lss 3 3 _ _ rfl rfl rfl (by exact congrArg some (decide_eq_true (by (try (dsimp only; fail_if_success done)); omega))) ?_)) | (refine kL 870 rfl ?_; refine A_idx rfl rfl 27 _ _ rfl ud27 inf50 (by decide) (by exact .inr rfl) rfl (by omega) _ (by with_reducible exact Int.toNat_natCast _) (by exact map_get (by assumption)) rfl (cs' := [_, _, _, _]) rfl ?_) | refine A_load_lp_agg rfl rfl 50 _ rfl ud50 rfl inf50 rfl (us' := [_, _, _, _]) rfl rfl ?_ | refine A_alloc rfl rfl 50 rfl inf50 (cs := [.t (.v (.int .i64 0)), .t (.v (.int .i64 0)), .t (.v (.int .i64 0)), .t (.v (.int .i64 0))]) rfl (.push qL qN) ?_ | refine A_store rfl rfl 50 _ _ rfl inf50 rfl rfl rfl rfl (Nat.le_of_ble_eq_true rfl) qN qN ?_ | refine AL.nil ?_)) | ((with_reducible refine kRG ?_); (first | (refine kR 1602 rfl ?_; (first | refine R_load_agg rfl rfl 50 _ rfl ud50 rfl inf50 rfl rfl (us' := [_, _, _, _]) rfl rfl ?_ | refine R_load_lp_agg rfl rfl 50 _ rfl ud50 rfl inf50 rfl (us' := [_, _, _, _]) rfl rfl ?_)) | refine R_field rfl rfl 29 _ 3 rfl ud29 rfl inf27 (by decide) 3 rfl rfl ?_ | refine R_load rfl rfl 27 _ rfl ud27 rfl rfl rfl rfl ?_ | (refine kR 0 rfl ?_; (first | refine R_mt rfl rfl rfl rfl ?_ | refine R_move rfl rfl _ (.inl rfl) (y := .sl _ _ _) rfl ?_)) | (refine kR 870 rfl ?_; refine R_idx rfl rfl 27 _ _ rfl ud27 inf50 (by decide) (by exact .inr rfl) rfl (by omega) _ (by with_reducible exact Int.toNat_natCast _) (by exact map_get (by assumption)) rfl (cs' := [_, _, _, _]) rfl ?_) | (refine kR 1609 rfl ?_; (refine R_eqs rfl rfl 50 50 _ _ rfl rfl rfl (by kernel_rfl) (fun w => eqs50 9998 _ _ _ _ _ _ _ _ w) (by exact decide_eq_false (by (try simp only [and_true]); omega)) ?_)) | (refine kR 1604 rfl ?_; (first | refine R_field rfl rfl 50 _ 2 rfl ud50 rfl inf48 (by decide) 2 rfl rfl ?_ | refine R_field rfl rfl 50 _ 1 rfl ud50 rfl inf3 (by decide) 1 rfl rfl ?_)) | refine R_load rfl rfl 48 _ rfl ud48 rfl rfl rfl rfl ?_ | refine R_cmp (d := 112) rfl rfl (c := false) .neq 48 48 _ _ rfl rfl rfl (by exact congrArg some (decide_eq_false (by (try (dsimp only; fail_if_success done)); omega))) ?_ | (refine kR 19 rfl ?_; refine R_pkf rfl rfl _ _ _ rfl rfl rfl ?_) | (refine kR 1990 rfl ?_; refine R_idx_sl rfl rfl 62 _ _ rfl ud62 inf32 rfl rfl (by (simp; omega)) rfl (by omega) _ (by with_reducible exact Int.toNat_natCast _) (by omega) ?_) | (refine kR 1028 rfl ?_; (first | refine R_field rfl rfl 32 _ 0 rfl ud32 rfl inf3 (by decide) 0 rfl rfl ?_ | refine R_field rfl rfl 32 _ 4 rfl ud32 rfl inf30 (by decide) 4 rfl rfl ?_)) | (refine kR 98 rfl ?_; (first | refine R_load rfl rfl 3 _ rfl ud3 rfl rfl rfl rfl ?_ | refine R_load_rp rfl rfl 3 _ rfl ud3 rfl rfl rfl (by exact map_get (by assumption)) rfl ?_)) | (refine kR 105 rfl ?_; (first | refine R_cmp (d := 120) rfl rfl (c := false) .neq 3 3 _ _ rfl rfl rfl (by exact congrArg some (decide_eq_false (by (try (dsimp only; fail_if_success done)); omega))) ?_ | refine R_cmp (d := 131) rfl rfl (c := true) .geq 3 3 _ _ rfl rfl rfl (by exact congrArg some (decide_eq_true (by (try (dsimp only; fail_if_success done)); omega))) ?_)) | refine R_load_rp rfl rfl 30 _ rfl ud30 rfl rfl rfl (by exact map_get (by assumption)) rfl ?_ | refine R_len rfl rfl 30 _ rfl ud30 rfl ?_ | refine RG.nil ⟨by kernel_rfl, ?_⟩)) | (with_reducible (first | refine wk0 ?_ | refine wk1 ?_ | refine wk2 ?_ | refine wk4 ?_ | refine wk7 ?_ | refine wkc ?_ | refine wkd ?_)) | refine kct rfl ?_ | with_reducible refine AW.at_region _ ?_ | refine AW.at_draw 21 mixed 0 [[], [], [1], [], [1, 2, 3], [1, 2, 3, 4], [0, 1, 2, 3, 4, 5], [0, 1, 2, 3, 4, 5, 6], [0, 1, 2, 3, 4, 5, 6, 7], [0, 1, 2, 3, 4, 5, 6, 7, 8], [0, 1, 2, 3, 4, 5, 6, 7, 8, 9], [0, 1, 2, 3, 4, 5, 6, 7, 8, 9, 10], [0, 1, 2, 3, 4, 5, 6, 7, 8, 9, 10, 11], [0, 1, 2, 3, 4, 5, 6, 7, 8, 9, 10, 11, 12], [0, 1, 2, 3, 4, 5, 6, 7, 8, 9, 10, 11, 12], [0, 1, 2, 3, 4, 5, 6, 7, 8, 9, 10, 11, 12, 13, 14], [0, 1, 2, 3, 4, 5, 6, 7, 8, 9, 10, 11, 12, 13, 14, 15], [0, 1, 2, 3, 4, 5, 6, 7, 8, 9, 10, 11, 12, 13, 14, 15, 16], [0, 1, 2, 3, 4, 5, 6, 7, 8, 9, 10, 11, 12, 13, 14, 15, 16, 17], [0, 1, 2, 3, 4, 5, 6, 7, 8, 9, 10, 11, 12, 13, 14, 15, 16, 17, 18], [0, 1, 2, 3, 4, 5, 6, 7, 8, 9, 10, 11, 12, 13, 14, 15, 16, 17, 18, 19], [0, 1, 2, 3, 4, 5, 6, 7, 8, 9, 10, 11, 12, 13, 14, 15, 16, 17, 18, 19, 20], [0, 1, 2, 3, 4, 5, 6, 7, 8, 9, 10, 11, 12, 13, 14, 15, 16, 17, 18, 19, 20, 21], [0, 1, 2, 3, 4, 5, 6, 7, 8, 9, 10, 11, 12, 13, 14, 15, 16, 17, 18, 19, 20], [0, 1, 2, 3, 4, 5, 6, 7, 8, 9, 10, 11, 12, 13, 14, 15, 16, 17, 18, 19, 20], [0, 1, 2, 3, 4, 5, 6, 7, 8, 9, 10, 11, 12, 13, 14, 15, 16, 17, 18, 19, 20, 23, 24], [0, 1, 2, 3, 4, 5, 6, 7, 8, 9, 10, 11, 12, 13, 14, 15, 16, 17, 18, 19, 20, 23, 24, 25], [0, 1, 2, 3, 4, 5, 6, 7, 8, 9, 10, 11, 12, 13, 14, 15, 16, 17, 18, 19, 20, 23, 24, 25, 26], [0, 1, 2, 3, 4, 5, 6, 7, 8, 9, 10, 11, 12, 13, 14, 15, 16, 17, 18, 19, 20, 23, 24, 25, 26, 27], [0, 1, 2, 3, 4, 5, 6, 7, 8, 9, 10, 11, 12, 13, 14, 15, 16, 17, 18, 19, 20, 21, 22, 23, 24, 25, 26, 27, 28], [0, 1, 2, 3, 4, 5, 6, 7, 8, 9, 10, 11, 12, 13, 14, 15, 16, 17, 18, 19, 20, 21, 22, 23, 24, 25, 26, 27, 28, 29]] qR ?_)
                      all_goals first | (exfalso; omega) | skip
                      refine ⟨⟨t + 1, ⟨⟨k0, n0, M0⟩, ⟨k1, n1, M1⟩, ⟨k2, n2, M2⟩, ⟨k3, n3, M3⟩, ⟨k4, n4, M4⟩, ⟨k5, n5, M5⟩⟩⟩, ⟨by dsimp only; omega, m0', m1', m2', m3', m4', m5'⟩, by dsimp only; omega, ?_⟩
                      exact Wk.cq 12
                    · subst e2
                      repeat' (first | ((with_reducible refine kAL ?_); (first | refine A_as rfl rfl rfl rfl ?_ | refine A_mt rfl rfl rfl rfl ?_ | (refine kL 105 rfl ?_; (first | refine A_add rfl rfl 3 3 _ _ rfl rfl rfl (by first | exact wi | rfl) ?_ | refine A_cmp (d := 98) rfl rfl (c := true) .lss 3 3 _ _ rfl rfl rfl (by exact congrArg some (decide_eq_true (by (try (dsimp only; fail_if_success done)); omega))) ?_)) | (refine kL 870 rfl ?_; refine A_idx rfl rfl 27 _ _ rfl ud27 inf50 (by decide) (by exact .inr rfl) rfl (by omega) _ (by with_reducible exact Int.toNat_natCast _) (by exact map_get (by assumption)) rfl (cs' := [_, _, _, _]) rfl ?_) | refine A_load_lp_agg rfl rfl 50 _ rfl ud50 rfl inf50 rfl (us' := [_, _, _, _]) rfl rfl ?_ | refine A_alloc rfl rfl 50 rfl inf50 (cs := [.t (.v (.int .i64 0)), .t (.v (.int .i64 0)), .t (.v (.int .i64 0)), .t (.v (.int .i64 0))]) rfl (.push qL qN) ?_ | refine A_store rfl rfl 50 _ _ rfl inf50 rfl rfl rfl rfl (Nat.le_of_ble_eq_true rfl) qN qN ?_ | refine AL.nil ?_)) | ((with_reducible refine kRG ?_); (first | refine R_skip rfl rfl ?_ | (refine kR 1602 rfl ?_; (first | refine R_load_agg rfl rfl 50 _ rfl ud50 rfl inf50 rfl rfl (us' := [_, _, _, _]) rfl rfl ?_ | refine R_load_lp_agg rfl rfl 50 _ rfl ud50 rfl inf50 rfl (us' := [_, _, _, _]) rfl rfl ?_)) | refine R_field rfl rfl 29 _ 3 rfl ud29 rfl inf27 (by decide) 3 rfl rfl ?_ | refine R_load rfl rfl 27 _ rfl ud27 rfl rfl rfl rfl ?_ | (refine kR 0 rfl ?_; (first | refine R_mt rfl rfl rfl rfl ?_ | refine R_move rfl rfl _ (.inl rfl) (y := .sl _ _ _) rfl ?_)) | (refine kR 870 rfl ?_; refine R_idx rfl rfl 27 _ _ rfl ud27 inf50 (by decide) (by exact .inr rfl) rfl (by omega) _ (by with_reducible exact Int.toNat_natCast _) (by exact map_get (by assumption)) rfl (cs' := [_, _, _, _]) rfl ?_) | (refine kR 1609 rfl ?_; (refine R_eqs rfl rfl 50 50 _ _ rfl rfl rfl (by kernel_rfl) (fun w => eqs50 9998 _ _ _ _ _ _ _ _ w) (by exact decide_eq_false (by (try simp only [and_true]); omega)) ?_)) | refine R_field rfl rfl 50 _ 2 rfl ud50 rfl inf48 (by decide) 2 rfl rfl ?_ | refine R_load rfl rfl 48 _ rfl ud48 rfl rfl rfl rfl ?_ | refine R_cmp (d := 112) rfl rfl (c := false) .neq 48 48 _ _ rfl rfl rfl (by exact congrArg some (decide_eq_false (by (try (dsimp only; fail_if_success done)); omega))) ?_ | (refine kR 19 rfl ?_; (first | refine R_pkt rfl rfl _ _ _ rfl rfl rfl ?_ | refine R_pkf rfl rfl _ _ _ rfl rfl rfl ?_)) | (refine kR 1990 rfl ?_; refine R_idx_sl rfl rfl 62 _ _ rfl ud62 inf32 rfl rfl (by (simp; omega)) rfl (by omega) _ (by with_reducible exact Int.toNat_natCast _) (by omega) ?_) | refine R_field rfl rfl 32 _ 0 rfl ud32 rfl inf3 (by decide) 0 rfl rfl ?_ | refine R_load_rp rfl rfl 3 _ rfl ud3 rfl rfl rfl (by exact map_get (by assumption)) rfl ?_ | refine R_cmp (d := 120) rfl rfl (c := true) .neq 3 3 _ _ rfl rfl rfl (by exact congrArg some (decide_eq_true (by (try (dsimp only; fail_if_success done)); omega))) ?_ | refine RG.nil ⟨by kernel_rfl, ?_⟩)) | (with_reducible (first | refine wk0 ?_ | refine wk1 ?_ | refine wk2 ?_ | refine wk4 ?_ | refine wk7 ?_ | refine wkc ?_ | refine wkd ?_)) | refine kct rfl ?_ | with_reducible refine AW.at_region _ ?_ | refine AW.at_draw 21 mixed 0 [[], [], [1], [], [1, 2, 3], [1, 2, 3, 4], [0, 1, 2, 3, 4, 5], [0, 1, 2, 3, 4, 5, 6], [0, 1, 2, 3, 4, 5, 6, 7], [0, 1, 2, 3, 4, 5, 6, 7, 8], [0, 1, 2, 3, 4, 5, 6, 7, 8, 9], [0, 1, 2, 3, 4, 5, 6, 7, 8, 9, 10], [0, 1, 2, 3, 4, 5, 6, 7, 8, 9, 10, 11], [0, 1, 2, 3, 4, 5, 6, 7, 8, 9, 10, 11, 12], [0, 1, 2, 3, 4, 5, 6, 7, 8, 9, 10, 11, 12], [0, 1, 2, 3, 4, 5, 6, 7, 8, 9, 10, 11, 12, 13, 14], [0, 1, 2, 3, 4, 5, 6, 7, 8, 9, 10, 11, 12, 13, 14, 15], [0, 1, 2, 3, 4, 5, 6, 7, 8, 9, 10, 11, 12, 13, 14, 15, 16], [0, 1, 2, 3, 4, 5, 6, 7, 8, 9, 10, 11, 12, 13, 14, 15, 16, 17], [0, 1, 2, 3, 4, 5, 6, 7, 8, 9, 10, 11, 12, 13, 14, 15, 16, 17, 18], [0, 1, 2, 3, 4, 5, 6, 7, 8, 9, 10, 11, 12, 13, 14, 15, 16, 17, 18, 19], [0, 1, 2, 3, 4, 5, 6, 7, 8, 9, 10, 11, 12, 13, 14, 15, 16, 17, 18, 19, 20], [0, 1, 2, 3, 4, 5, 6, 7, 8, 9, 10, 11, 12, 13, 14, 15, 16, 17, 18, 19, 20, 21], [0, 1, 2, 3, 4, 5, 6, 7, 8, 9, 10, 11, 12, 13, 14, 15, 16, 17, 18, 19, 20], [0, 1, 2, 3, 4, 5, 6, 7, 8, 9, 10, 11, 12, 13, 14, 15, 16, 17, 18, 19, 20], [0, 1, 2, 3, 4, 5, 6, 7, 8, 9, 10, 11, 12, 13, 14, 15, 16, 17, 18, 19, 20, 23, 24], [0, 1, 2, 3, 4, 5, 6, 7, 8, 9, 10, 11, 12, 13, 14, 15, 16, 17, 18, 19, 20, 23, 24, 25], [0, 1, 2, 3, 4, 5, 6, 7, 8, 9, 10, 11, 12, 13, 14, 15, 16, 17, 18, 19, 20, 23, 24, 25, 26], [0, 1, 2, 3, 4, 5, 6, 7, 8, 9, 10, 11, 12, 13, 14, 15, 16, 17, 18, 19, 20, 23, 24, 25, 26, 27], [0, 1, 2, 3, 4, 5, 6, 7, 8, 9, 10, 11, 12, 13, 14, 15, 16, 17, 18, 19, 20, 21, 22, 23, 24, 25, 26, 27, 28], [0, 1, 2, 3, 4, 5, 6, 7, 8, 9, 10, 11, 12, 13, 14, 15, 16, 17, 18, 19, 20, 21, 22, 23, 24, 25, 26, 27, 28, 29]] qR ?_)
                      all_goals first | (exfalso; omega) | skip
                      refine ⟨⟨t + 1, ⟨⟨k0, n0, M0⟩, ⟨k1, n1, M1⟩, ⟨k2, n2, M2⟩, ⟨k3, n3, M3⟩, ⟨k4, n4, M4⟩, ⟨k5, n5, M5⟩⟩⟩, ⟨by dsimp only; omega, m0', m1', m2', m3', m4', m5'⟩, by dsimp only; omega, ?_⟩
                      exact Wk.cq 12
                  · have heq : decide (ra = wa ∧ rb = wb ∧ rc = wcc ∧ rd = wd ∧ True) = false := decide_eq_false (by simpa using e1)
                    clear he he2 e1
                    repeat' (first | ((with_reducible refine kAL ?_); (first | refine A_as rfl rfl rfl rfl ?_ | refine A_mt rfl rfl rfl rfl ?_ | (refine kL 105 rfl ?_; (first | refine A_add rfl rfl 3 3 _ _ rfl rfl rfl (by first | exact wi | rfl) ?_ | refine A_cmp (d := 98) rfl rfl (c := true) .lss 3 3 _ _ rfl rfl rfl (by exact congrArg some (decide_eq_true (by (try (dsimp only; fail_if_success done)); omega))) ?_)) | (refine kL 870 rfl ?_; refine A_idx rfl rfl 27 _ _ rfl ud27 inf50 (by decide) (by exact .inr rfl) rfl (by omega) _ (by with_reducible exact Int.toNat_natCast _) (by exact map_get (by assumption)) rfl (cs' := [_, _, _, _]) rfl ?_) | refine A_load_lp_agg rfl rfl 50 _ rfl ud50 rfl inf50 rfl (us' := [_, _, _, _]) rfl rfl ?_ | refine A_alloc rfl rfl 50 rfl inf50 (cs := [.t (.v (.int .i64 0)), .t (.v (.int .i64 0)), .t (.v (.int .i64 0)), .t (.v (.int .i64 0))]) rfl (.push qL qN) ?_ | refine A_store rfl rfl 50 _ _ rfl inf50 rfl rfl rfl rfl (Nat.le_of_ble_eq_true rfl) qN qN ?_ | refine AL.nil ?_)) | ((with_reducible refine kRG ?_); (first | refine R_skip rfl rfl ?_ | (refine kR 1602 rfl ?_; (first | refine R_load_agg rfl rfl 50 _ rfl ud50 rfl inf50 rfl rfl (us' := [_, _, _, _]) rfl rfl ?_ | refine R_load_lp_agg rfl rfl 50 _ rfl ud50 rfl inf50 rfl (us' := [_, _, _, _]) rfl rfl ?_)) | refine R_field rfl rfl 29 _ 3 rfl ud29 rfl inf27 (by decide) 3 rfl rfl ?_ | refine R_load rfl rfl 27 _ rfl ud27 rfl rfl rfl rfl ?_ | refine R_mt rfl rfl rfl rfl ?_ | (refine kR 870 rfl ?_; refine R_idx rfl rfl 27 _ _ rfl ud27 inf50 (by decide) (by exact .inr rfl) rfl (by omega) _ (by with_reducible exact Int.toNat_natCast _) (by exact map_get (by assumption)) rfl (cs' := [_, _, _, _]) rfl ?_) | (refine kR 1609 rfl ?_; (refine R_eqs rfl rfl 50 50 _ _ rfl rfl rfl (by kernel_rfl) (fun w => eqs50 9998 _ _ _ _ _ _ _ _ w) (by exact heq) ?_)) | refine R_field rfl rfl 50 _ 2 rfl ud50 rfl inf48 (by decide) 2 rfl rfl ?_ | refine R_load rfl rfl 48 _ rfl ud48 rfl rfl rfl rfl ?_ | refine R_cmp (d := 112) rfl rfl (c := true) .neq 48 48 _ _ rfl rfl rfl (by exact congrArg some (decide_eq_true (by (try (dsimp only; fail_if_success done)); omega))) ?_ | (refine kR 19 rfl ?_; (first | refine R_pkt rfl rfl _ _ _ rfl rfl rfl ?_ | refine R_pkf rfl rfl _ _ _ rfl rfl rfl ?_)) | refine RG.nil ⟨by kernel_rfl, ?_⟩)) | (with_reducible (first | refine wk0 ?_ | refine wk1 ?_ | refine wk2 ?_ | refine wk4 ?_ | refine wk7 ?_ | refine wkc ?_ | refine wkd ?_)) | refine kct rfl ?_ | with_reducible refine AW.at_region _ ?_ | refine AW.at_draw 21 mixed 0 [[], [], [1], [], [1, 2, 3], [1, 2, 3, 4], [0, 1, 2, 3, 4, 5], [0, 1, 2, 3, 4, 5, 6], [0, 1, 2, 3, 4, 5, 6, 7], [0, 1, 2, 3, 4, 5, 6, 7, 8], [0, 1, 2, 3, 4, 5, 6, 7, 8, 9], [0, 1, 2, 3, 4, 5, 6, 7, 8, 9, 10], [0, 1, 2, 3, 4, 5, 6, 7, 8, 9, 10, 11], [0, 1, 2, 3, 4, 5, 6, 7, 8, 9, 10, 11, 12], [0, 1, 2, 3, 4, 5, 6, 7, 8, 9, 10, 11, 12], [0, 1, 2, 3, 4, 5, 6, 7, 8, 9, 10, 11, 12, 13, 14], [0, 1, 2, 3, 4, 5, 6, 7, 8, 9, 10, 11, 12, 13, 14, 15], [0, 1, 2, 3, 4, 5, 6, 7, 8, 9, 10, 11, 12, 13, 14, 15, 16], [0, 1, 2, 3, 4, 5, 6, 7, 8, 9, 10, 11, 12, 13, 14, 15, 16, 17], [0, 1, 2, 3, 4, 5, 6, 7, 8, 9, 10, 11, 12, 13, 14, 15, 16, 17, 18], [0, 1, 2, 3, 4, 5, 6, 7, 8, 9, 10, 11, 12, 13, 14, 15, 16, 17, 18, 19], [0, 1, 2, 3, 4, 5, 6, 7, 8, 9, 10, 11, 12, 13, 14, 15, 16, 17, 18, 19, 20], [0, 1, 2, 3, 4, 5, 6, 7, 8, 9, 10, 11, 12, 13, 14, 15, 16, 17, 18, 19, 20, 21], [0, 1, 2, 3, 4, 5, 6, 7, 8, 9, 10, 11, 12, 13, 14, 15, 16, 17, 18, 19, 20], [0, 1, 2, 3, 4, 5, 6, 7, 8, 9, 10, 11, 12, 13, 14, 15, 16, 17, 18, 19, 20], [0, 1, 2, 3, 4, 5, 6, 7, 8, 9, 10, 11, 12, 13, 14, 15, 16, 17, 18, 19, 20, 23, 24], [0, 1, 2, 3, 4, 5, 6, 7, 8, 9, 10, 11, 12, 13, 14, 15, 16, 17, 18, 19, 20, 23, 24, 25], [0, 1, 2, 3, 4, 5, 6, 7, 8, 9, 10, 11, 12, 13, 14, 15, 16, 17, 18, 19, 20, 23, 24, 25, 26], [0, 1, 2, 3, 4, 5, 6, 7, 8, 9, 10, 11, 12, 13, 14, 15, 16, 17, 18, 19, 20, 23, 24, 25, 26, 27], [0, 1, 2, 3, 4, 5, 6, 7, 8, 9, 10, 11, 12, 13, 14, 15, 16, 17, 18, 19, 20, 21, 22, 23, 24, 25, 26, 27, 28], [0, 1, 2, 3, 4, 5, 6, 7, 8, 9, 10, 11, 12, 13, 14, 15, 16, 17, 18, 19, 20, 21, 22, 23, 24, 25, 26, 27, 28, 29]] qR ?_)
                    all_goals first | (exfalso; omega) | skip
                    refine ⟨⟨t + 1, ⟨⟨k0, n0, M0⟩, ⟨k1, n1, M1⟩, ⟨k2, n2, M2⟩, ⟨k3, n3, M3⟩, ⟨k4, n4, M4⟩, ⟨k5, n5, M5⟩⟩⟩, ⟨by dsimp only; omega, m0', m1', m2', m3', m4', m5'⟩, by dsimp only; omega, ?_⟩
                    exact Wk.cq 12
              · have hev := he
                unfold evOk at hev
                simp only [Bool.and_eq_true, decide_eq_true_eq] at hev
                obtain ⟨⟨⟨v1, v2⟩, v3⟩, v4⟩ := hev
                have v0 := (hfi r (List.mem_of_getElem? hr)).c v2
                obtain ⟨r1', rcas, rco, r4⟩ := r
                obtain ⟨wa, wb, wcc, wd⟩ := w
                obtain ⟨k1', k2', k3', k4', kcs⟩ := qq
                dsimp only at v0 v2 v3 v4
                obtain ⟨m, rfl⟩ : ∃ m : Nat, rcas = m := ⟨rcas.toNat, by omega⟩
                obtain ⟨⟨kd, kh, kv⟩, hkx⟩ : ∃ k, kcs[m]? = some k := ⟨_, List.getElem?_eq_getElem (by omega)⟩
                have hkl : (kcs.map tCs).length = kcs.length := List.length_map _
                have hml := get_lt hkx
                have v1' : ¬ (r1' = wa ∧ (m : Int) = wb ∧ rco = wcc ∧ r4 = wd) := fun e => v1 (by obtain ⟨rfl, rfl, rfl, rfl⟩ := e; rfl)
                have hat := fun p => @fI_at p K.done G.done R' t ⟨r1', m, rco, r4⟩ ⟨k1', k2', k3', k4', kcs⟩ ⟨kd, kh, kv⟩ (getD_of hr) (getD_of hqq) (by rw [getD_of hwa]; exact he) (by unfold evK; dsimp only; rw [Int.toNat_natCast, getD_of hkx])
                subst v2 v3
                dsimp only at hat
                generalize hX0 : I 0 q ++ evI 0 K.done G.done R' t = X0 at m0
                generalize hX1 : I 1 q ++ evI 1 K.done G.done R' t = X1 at m1
                generalize hX2 : I 2 q ++ evI 2 K.done G.done R' t = X2 at m2
                generalize hX3 : O 0 q ++ evO 0 K.done G.done R' t = X3 at m3
                generalize hX4 : O 1 q ++ evO 1 K.done G.done R' t = X4 at m4
                generalize hX5 : O 2 q ++ evO 2 K.done G.done R' t = X5 at m5
                have xl0 : X0.length ≤ 505 := by rw [← hX0, List.length_append]; have := hbI 0 q hq0; have := evI_len 0 K.done G.done R' t; omega
                have xl1 : X1.length ≤ 505 := by rw [← hX1, List.length_append]; have := hbI 1 q hq0; have := evI_len 1 K.done G.done R' t; omega
                have xl2 : X2.length ≤ 505 := by rw [← hX2, List.length_append]; have := hbI 2 q hq0; have := evI_len 2 K.done G.done R' t; omega
                have xl3 : X3.length ≤ 505 := by rw [← hX3, List.length_append]; have := hbO 0 q hq0; have := evO_len 0 K.done G.done R' t; omega
                have xl4 : X4.length ≤ 505 := by rw [← hX4, List.length_append]; have := hbO 1 q hq0; have := evO_len 1 K.done G.done R' t; omega
                have xl5 : X5.length ≤ 505 := by rw [← hX5, List.length_append]; have := hbO 2 q hq0; have := evO_len 2 K.done G.done R' t; omega
                repeat' (first | ((with_reducible refine kAL ?_); (first | refine A_as rfl rfl rfl rfl ?_ | refine A_mt rfl rfl rfl rfl ?_ | refine A_cmp (d := 98) rfl rfl (c := true) .lss 3 3 _ _ rfl rfl rfl (by exact congrArg some (decide_eq_true (by (try (dsimp only; fail_if_success done)); omega))) ?_ | (refine kL 870 rfl ?_; refine A_idx rfl rfl 27 _ _ rfl ud27 inf50 (by decide) (by exact .inr rfl) rfl (by omega) _ (by with_reducible exact Int.toNat_natCast _) (by exact map_get (by assumption)) rfl (cs' := [_, _, _, _]) rfl ?_) | refine A_load_lp_agg rfl rfl 50 _ rfl ud50 rfl inf50 rfl (us' := [_, _, _, _]) rfl rfl ?_ | refine A_alloc rfl rfl 50 rfl inf50 (cs := [.t (.v (.int .i64 0)), .t (.v (.int .i64 0)), .t (.v (.int .i64 0)), .t (.v (.int .i64 0))]) rfl (.push qL qN) ?_ | refine A_store rfl rfl 50 _ _ rfl inf50 rfl rfl rfl rfl (Nat.le_of_ble_eq_true rfl) qN qN ?_ | refine AL.nil ?_)) | ((with_reducible refine kRG ?_); (first | (refine kR 1602 rfl ?_; (first | refine R_load_agg rfl rfl 50 _ rfl ud50 rfl inf50 rfl rfl (us' := [_, _, _, _]) rfl rfl ?_ | refine R_load_lp_agg rfl rfl 50 _ rfl ud50 rfl inf50 rfl (us' := [_, _, _, _]) rfl rfl ?_)) | refine R_field rfl rfl 29 _ 3 rfl ud29 rfl inf27 (by decide) 3 rfl rfl ?_ | refine R_load rfl rfl 27 _ rfl ud27 rfl rfl rfl rfl ?_ | (refine kR 0 rfl ?_; (first | refine R_mt rfl rfl rfl rfl ?_ | refine R_move rfl rfl _ (.inl rfl) (y := .sl _ _ _) rfl ?_)) | (refine kR 870 rfl ?_; refine R_idx rfl rfl 27 _ _ rfl ud27 inf50 (by decide) (by exact .inr rfl) rfl (by omega) _ (by with_reducible exact Int.toNat_natCast _) (by exact map_get (by assumption)) rfl (cs' := [_, _, _, _]) rfl ?_) | (refine kR 1609 rfl ?_; (refine R_eqs rfl rfl 50 50 _ _ rfl rfl rfl (by kernel_rfl) (fun w => eqs50 9998 _ _ _ _ _ _ _ _ w) (by exact decide_eq_false (by (try simp only [and_true]); omega)) ?_)) | (refine kR 1604 rfl ?_; (first | refine R_field rfl rfl 50 _ 2 rfl ud50 rfl inf48 (by decide) 2 rfl rfl ?_ | refine R_field rfl rfl 50 _ 1 rfl ud50 rfl inf3 (by decide) 1 rfl rfl ?_)) | refine R_load rfl rfl 48 _ rfl ud48 rfl rfl rfl rfl ?_ | refine R_cmp (d := 112) rfl rfl (c := false) .neq 48 48 _ _ rfl rfl rfl (by exact congrArg some (decide_eq_false (by (try (dsimp only; fail_if_success done)); omega))) ?_ | (refine kR 19 rfl ?_; refine R_pkf rfl rfl _ _ _ rfl rfl rfl ?_) | (refine kR 1990 rfl ?_; refine R_idx_sl rfl rfl 62 _ _ rfl ud62 inf32 rfl rfl (by (simp; omega)) rfl (by omega) _ (by with_reducible exact Int.toNat_natCast _) (by omega) ?_) | (refine kR 1028 rfl ?_; (first | refine R_field rfl rfl 32 _ 0 rfl ud32 rfl inf3 (by decide) 0 rfl rfl ?_ | refine R_field rfl rfl 32 _ 4 rfl ud32 rfl inf30 (by decide) 4 rfl rfl ?_)) | (refine kR 98 rfl ?_; (first | refine R_load rfl rfl 3 _ rfl ud3 rfl rfl rfl rfl ?_ | refine R_load_rp rfl rfl 3 _ rfl ud3 rfl rfl rfl (by exact map_get (by assumption)) rfl ?_)) | (refine kR 105 rfl ?_; (first | refine R_cmp (d := 120) rfl rfl (c := false) .neq 3 3 _ _ rfl rfl rfl (by exact congrArg some (decide_eq_false (by (try (dsimp only; fail_if_success done)); omega))) ?_ | refine R_cmp (d := 131) rfl rfl (c := false) .geq 3 3 _ _ rfl rfl rfl (by exact congrArg some (decide_eq_false (by (try (dsimp only; fail_if_success done)); omega))) ?_)) | refine R_load_rp rfl rfl 30 _ rfl ud30 rfl rfl rfl (by exact map_get (by assumption)) rfl ?_ | refine R_len rfl rfl 30 _ rfl ud30 rfl ?_ | (refine kR 966 rfl ?_; refine R_idx rfl rfl 30 _ _ rfl ud30 inf45 (by decide) (by exact .inr rfl) rfl (by omega) _ (by with_reducible exact Int.toNat_natCast _) (by exact map_get (by assumption)) rfl (cs' := [_, _, _]) rfl ?_) | refine R_load_lp_agg rfl rfl 45 _ rfl ud45 rfl inf45 rfl (us' := [_, _, _]) rfl rfl ?_ | refine R_alloc (N := 13) rfl rfl 45 rfl inf45 (cs := [.t (.v (.int .i64 0)), .t (.v (.int .i64 0)), .t (.v (.int .i64 0))]) rfl rfl qN ?_ | refine R_store rfl rfl 45 _ _ rfl inf45 rfl rfl rfl rfl (Nat.le_of_ble_eq_true rfl) qN qN ?_ | refine RG.nil ⟨by kernel_rfl, ?_⟩)) | (with_reducible (first | refine wk0 ?_ | refine wk1 ?_ | refine wk2 ?_ | refine wkd ?_)) | refine kct rfl ?_ | refine kcf rfl ?_ | with_reducible refine AW.at_region _ ?_ | refine AW.at_draw 21 mixed 0 [[], [], [1], [], [1, 2, 3], [1, 2, 3, 4], [0, 1, 2, 3, 4, 5], [0, 1, 2, 3, 4, 5, 6], [0, 1, 2, 3, 4, 5, 6, 7], [0, 1, 2, 3, 4, 5, 6, 7, 8], [0, 1, 2, 3, 4, 5, 6, 7, 8, 9], [0, 1, 2, 3, 4, 5, 6, 7, 8, 9, 10], [0, 1, 2, 3, 4, 5, 6, 7, 8, 9, 10, 11], [0, 1, 2, 3, 4, 5, 6, 7, 8, 9, 10, 11, 12], [0, 1, 2, 3, 4, 5, 6, 7, 8, 9, 10, 11, 12], [0, 1, 2, 3, 4, 5, 6, 7, 8, 9, 10, 11, 12, 13, 14], [0, 1, 2, 3, 4, 5, 6, 7, 8, 9, 10, 11, 12, 13, 14, 15], [0, 1, 2, 3, 4, 5, 6, 7, 8, 9, 10, 11, 12, 13, 14, 15, 16], [0, 1, 2, 3, 4, 5, 6, 7, 8, 9, 10, 11, 12, 13, 14, 15, 16, 17], [0, 1, 2, 3, 4, 5, 6, 7, 8, 9, 10, 11, 12, 13, 14, 15, 16, 17, 18], [0, 1, 2, 3, 4, 5, 6, 7, 8, 9, 10, 11, 12, 13, 14, 15, 16, 17, 18, 19], [0, 1, 2, 3, 4, 5, 6, 7, 8, 9, 10, 11, 12, 13, 14, 15, 16, 17, 18, 19, 20], [0, 1, 2, 3, 4, 5, 6, 7, 8, 9, 10, 11, 12, 13, 14, 15, 16, 17, 18, 19, 20, 21], [0, 1, 2, 3, 4, 5, 6, 7, 8, 9, 10, 11, 12, 13, 14, 15, 16, 17, 18, 19, 20], [0, 1, 2, 3, 4, 5, 6, 7, 8, 9, 10, 11, 12, 13, 14, 15, 16, 17, 18, 19, 20], [0, 1, 2, 3, 4, 5, 6, 7, 8, 9, 10, 11, 12, 13, 14, 15, 16, 17, 18, 19, 20, 23, 24], [0, 1, 2, 3, 4, 5, 6, 7, 8, 9, 10, 11, 12, 13, 14, 15, 16, 17, 18, 19, 20, 23, 24, 25], [0, 1, 2, 3, 4, 5, 6, 7, 8, 9, 10, 11, 12, 13, 14, 15, 16, 17, 18, 19, 20, 23, 24, 25, 26], [0, 1, 2, 3, 4, 5, 6, 7, 8, 9, 10, 11, 12, 13, 14, 15, 16, 17, 18, 19, 20, 23, 24, 25, 26, 27], [0, 1, 2, 3, 4, 5, 6, 7, 8, 9, 10, 11, 12, 13, 14, 15, 16, 17, 18, 19, 20, 21, 22, 23, 24, 25, 26, 27, 28], [0, 1, 2, 3, 4, 5, 6, 7, 8, 9, 10, 11, 12, 13, 14, 15, 16, 17, 18, 19, 20, 21, 22, 23, 24, 25, 26, 27, 28, 29]] qR ?_ | refine AW.at_draw 22 mixed 1 [[], [], [0, 1], [0, 1, 2], [0, 1, 2, 3], [], [5], [0, 1, 2, 3, 4, 5, 6], [0, 1, 2, 3, 4, 5, 6, 7], [], [0, 1, 2, 3, 4, 5, 6, 7, 8, 9]] qR ?_)
                all_goals first | (exfalso; omega) | skip
                refine AW.loopP (fun (x : OrQ) => x.q ≤ 3 ∧ OkW x.g.a0 (X0 ++ upI 0 x.q (fI 0 K.done G.done R' t)) ∧ OkW x.g.a1 (X1 ++ upI 1 x.q (fI 1 K.done G.done R' t)) ∧ OkW x.g.a2 (X2 ++ upI 2 x.q (fI 2 K.done G.done R' t)) ∧ OkW x.g.b0 (X3 ++ upI 0 x.q (fO 0 K.done G.done R' t)) ∧ OkW x.g.b1 (X4 ++ upI 1 x.q (fO 1 K.done G.done R' t)) ∧ OkW x.g.b2 (X5 ++ upI 2 x.q (fO 2 K.done G.done R' t))) (fun (x : OrQ) => (pu (pu (pu (pu (pu (pu (pu (pu (pu (pu (pu (pu (pu (pu (pu (pu (fun _ => .any) 0 (i64 n)) 5 (.ptr 0 0)) 6 (.ptr 1 0)) 7 (.sl 2 0 n)) 8 (.ptr 3 0)) 9 (.ptr 4 0)) 36 (.ln (l.map tMw))) 37 (i64 (l.map tMw).length)) 38 (i64 q)) 12 (.ptr 11 0)) 95 (.t (.lst (G.done.map tR)))) 96 (i64 (G.done.map tR).length)) 97 (i64 t)) 14 (.ptr 12 0)) 15 (.ptr 13 0)) 142 (i64 x.q))) (fun (x : OrQ) => [.box 24 [i64 3, i64 n, i64 3, i64 2, i64 4, i64 1, i64 0, i64 9, i64 99, i64 3, .t (.lst ([0, 1].map tI))], .box 29 [i64 (G).ticket, .t (.lst ((G).chans.map tCh)), .t (.lst ((G).waits.map tWt)), .t (.lst ((G).done.map tR))], .row 0 32 5 ((R').map tRq), .box 63 [.sl 5 x.g.a0.k x.g.a0.n, .sl 6 x.g.a1.k x.g.a1.n, .sl 7 x.g.a2.k x.g.a2.n], .box 63 [.sl 8 x.g.b0.k x.g.b0.n, .sl 9 x.g.b1.k x.g.b1.n, .sl 10 x.g.b2.k x.g.b2.n], .row x.g.a0.k 3 1 (x.g.a0.M.map tI), .row x.g.a1.k 3 1 (x.g.a1.M.map tI), .row x.g.a2.k 3 1 (x.g.a2.M.map tI), .row x.g.b0.k 3 1 (x.g.b0.M.map tI), .row x.g.b1.k 3 1 (x.g.b1.M.map tI), .row x.g.b2.k 3 1 (x.g.b2.M.map tI), .box 29 [i64 (K).ticket, .t (.lst ((K).chans.map tCh)), .t (.lst ((K).waits.map tWt)), .t (.lst ((K).done.map tR))], .box 50 [i64 r1', i64 m, i64 0, i64 r4], .box 45 [i64 kd, i64 kh, i64 kv]]) (fun (x : OrQ) => 3 - x.q) (⟨0, ⟨⟨k0, n0, M0⟩, ⟨k1, n1, M1⟩, ⟨k2, n2, M2⟩, ⟨k3, n3, M3⟩, ⟨k4, n4, M4⟩, ⟨k5, n5, M5⟩⟩⟩) ?_ ?_ ?_
                · exact ⟨Nat.zero_le _, okV_s m0, okV_s m1, okV_s m2, okV_s m3, okV_s m4, okV_s m5⟩
                · exact Wk.cq 14
                · rintro ⟨p, ⟨⟨k0, n0, M0⟩, ⟨k1, n1, M1⟩, ⟨k2, n2, M2⟩, ⟨k3, n3, M3⟩, ⟨k4, n4, M4⟩, ⟨k5, n5, M5⟩⟩⟩ ⟨hp0, m0, m1, m2, m3, m4, m5⟩
                  dsimp only at hp0 m0 m1 m2 m3 m4 m5 ⊢
                  have b0 := okV_b m0 xl0
                  have b1 := okV_b m1 xl1
                  have b2 := okV_b m2 xl2
                  have b3 := okV_b m3 xl3
                  have b4 := okV_b m4 xl4
                  have b5 := okV_b m5 xl5
                  by_cases hp3 : p < 3
                  · have hpc : p = 0 ∨ p = 1 ∨ p = 2 := by omega
                    rcases hpc with rfl | rfl | rfl
                    · obtain ⟨eI, eO⟩ := hat 0
                      by_cases hh : kh = 8 + 0
                      · by_cases hd : kd = 1
                        · rw [if_pos ⟨hh, hd⟩] at eI
                          rw [if_neg (fun e => e.2 hd)] at eO
                          subst hh
                          subst hd
                          repeat' (first | ((with_reducible refine kAL ?_); (first | refine A_as rfl rfl rfl rfl ?_ | refine A_mt rfl rfl rfl rfl ?_ | (refine kL 105 rfl ?_; (first | refine A_add rfl rfl 3 3 _ _ rfl rfl rfl (by first | exact wi | rfl) ?_ | refine A_cmp (d := 143) rfl rfl (c := true) .lss 3 3 _ _ rfl rfl rfl (by exact congrArg some (decide_eq_true (by (try (dsimp only; fail_if_success done)); omega))) ?_ | refine A_cmp (d := 149) rfl rfl (c := false) .neq 3 3 _ _ rfl rfl rfl (by exact congrArg some (decide_eq_false (by (try (dsimp only; fail_if_success done)); omega))) ?_ | refine A_cmp (d := 152) rfl rfl (c := true) .eql 3 3 _ _ rfl rfl rfl (by exact congrArg some (decide_eq_true (by (try (dsimp only; fail_if_success done)); omega))) ?_)) | refine A_load rfl rfl 3 _ rfl ud3 rfl rfl rfl rfl ?_ | (refine kL 1444 rfl ?_; (first | refine A_field rfl rfl 45 _ 1 rfl ud45 rfl inf3 (by decide) 1 rfl rfl ?_ | refine A_field rfl rfl 45 _ 0 rfl ud45 rfl inf3 (by decide) 0 rfl rfl ?_)) | refine AL.nil ?_)) | ((with_reducible refine kRG ?_); (first | refine R_mt rfl rfl rfl rfl ?_ | refine R_load rfl rfl 3 _ rfl ud3 rfl rfl rfl rfl ?_ | (refine kR 12 rfl ?_; refine R_append rfl rfl _ _ 22 rfl ud22 inf3 rfl rfl rfl (by (simp; omega)) (by exact .all rfl (by rfl)) qB qB (by exact app_one (f := tI) (x := _) (by omega)) qN qS ?_) | (refine kR 2022 rfl ?_; refine R_idx_arr rfl rfl 63 _ _ rfl ud63 inf22 rfl (by decide) 0 rfl (by decide) 0 rfl rfl ?_) | refine R_load rfl rfl 22 _ rfl ud22 rfl rfl rfl rfl ?_ | refine R_field rfl rfl 45 _ 2 rfl ud45 rfl inf3 (by decide) 2 rfl rfl ?_ | (refine kR 719 rfl ?_; refine R_lit (N := 14) rfl rfl 22 1 _ rfl ud22 inf3 (.cons rfl .nil) (els := [[_]]) rfl (by exact (rfl : _ = List.map tI [_])) rfl (Nat.ne_of_beq_eq_false rfl) (Nat.le_of_ble_eq_true rfl) (Nat.le_of_ble_eq_true rfl) rfl qN ?_) | refine R_store rfl rfl 22 _ _ rfl inf22 rfl rfl rfl rfl (Nat.le_of_ble_eq_true rfl) qN qN ?_ | refine RG.nil ⟨by kernel_rfl, ?_⟩)) | (with_reducible (first | refine wk0 ?_ | refine wk1 ?_ | refine wk2 ?_ | refine wk5 ?_ | refine wkd ?_)) | refine kct rfl ?_ | refine kcf rfl ?_ | with_reducible refine AW.at_region _ ?_ | refine AW.at_draw 28 mixed 2 [[], [], [1], [1, 2], [], [4], [4, 5], [1, 2, 3, 4, 5, 6], [0, 1, 2, 3, 4, 5, 6, 7], [0, 1, 2, 3, 4, 5, 6, 7, 8]] qR ?_)
                          all_goals first | (exfalso; omega) | skip
                          refine ⟨⟨1, ⟨⟨k0 + 1, n0 + 1, M0 ++ [kv]⟩, ⟨k1, n1, M1⟩, ⟨k2, n2, M2⟩, ⟨k3, n3, M3⟩, ⟨k4, n4, M4⟩, ⟨k5, n5, M5⟩⟩⟩, ⟨by dsimp only; omega, okV_hit m0 eI, okV_up m1 (by decide), okV_up m2 (by decide), okV_miss m3 eO, okV_up m4 (by decide), okV_up m5 (by decide)⟩, by dsimp only; omega, ?_⟩
                          exact Wk.cq 14
                        · rw [if_neg (fun e => hd e.2)] at eI
                          rw [if_pos ⟨hh, hd⟩] at eO
                          subst hh
                          repeat' (first | ((with_reducible refine kAL ?_); (first | refine A_as rfl rfl rfl rfl ?_ | refine A_mt rfl rfl rfl rfl ?_ | (refine kL 105 rfl ?_; (first | refine A_add rfl rfl 3 3 _ _ rfl rfl rfl (by first | exact wi | rfl) ?_ | refine A_cmp (d := 143) rfl rfl (c := true) .lss 3 3 _ _ rfl rfl rfl (by exact congrArg some (decide_eq_true (by (try (dsimp only; fail_if_success done)); omega))) ?_ | refine A_cmp (d := 149) rfl rfl (c := false) .neq 3 3 _ _ rfl rfl rfl (by exact congrArg some (decide_eq_false (by (try (dsimp only; fail_if_success done)); omega))) ?_ | refine A_cmp (d := 152) rfl rfl (c := false) .eql 3 3 _ _ rfl rfl rfl (by exact congrArg some (decide_eq_false (by (try (dsimp only; fail_if_success done)); omega))) ?_)) | refine A_load rfl rfl 3 _ rfl ud3 rfl rfl rfl rfl ?_ | (refine kL 1444 rfl ?_; (first | refine A_field rfl rfl 45 _ 1 rfl ud45 rfl inf3 (by decide) 1 rfl rfl ?_ | refine A_field rfl rfl 45 _ 0 rfl ud45 rfl inf3 (by decide) 0 rfl rfl ?_)) | refine AL.nil ?_)) | ((with_reducible refine kRG ?_); (first | refine R_mt rfl rfl rfl rfl ?_ | refine R_field rfl rfl 50 _ 3 rfl ud50 rfl inf3 (by decide) 3 rfl rfl ?_ | refine R_load rfl rfl 3 _ rfl ud3 rfl rfl rfl rfl ?_ | (refine kR 12 rfl ?_; refine R_append rfl rfl _ _ 22 rfl ud22 inf3 rfl rfl rfl (by (simp; omega)) (by exact .all rfl (by rfl)) qB qB (by exact app_one (f := tI) (x := _) (by omega)) qN qS ?_) | (refine kR 2022 rfl ?_; refine R_idx_arr rfl rfl 63 _ _ rfl ud63 inf22 rfl (by decide) 0 rfl (by decide) 0 rfl rfl ?_) | refine R_load rfl rfl 22 _ rfl ud22 rfl rfl rfl rfl ?_ | (refine kR 719 rfl ?_; refine R_lit (N := 14) rfl rfl 22 1 _ rfl ud22 inf3 (.cons rfl .nil) (els := [[_]]) rfl (by exact (rfl : _ = List.map tI [_])) rfl (Nat.ne_of_beq_eq_false rfl) (Nat.le_of_ble_eq_true rfl) (Nat.le_of_ble_eq_true rfl) rfl qN ?_) | refine R_store rfl rfl 22 _ _ rfl inf22 rfl rfl rfl rfl (Nat.le_of_ble_eq_true rfl) qN qN ?_ | refine RG.nil ⟨by kernel_rfl, ?_⟩)) | (with_reducible (first | refine wk0 ?_ | refine wk1 ?_ | refine wk2 ?_ | refine wk5 ?_ | refine wkd ?_)) | refine kct rfl ?_ | refine kcf rfl ?_ | with_reducible refine AW.at_region _ ?_ | refine AW.at_draw 29 mixed 2 [[], [], [1], [1, 2], [], [4], [4, 5], [1, 2, 3, 4, 5, 6], [0, 1, 2, 3, 4, 5, 6, 7], [0, 1, 2, 3, 4, 5, 6, 7, 8]] qR ?_)
                          all_goals first | (exfalso; omega) | skip
                          refine ⟨⟨1, ⟨⟨k0, n0, M0⟩, ⟨k1, n1, M1⟩, ⟨k2, n2, M2⟩, ⟨k3 + 1, n3 + 1, M3 ++ [r4]⟩, ⟨k4, n4, M4⟩, ⟨k5, n5, M5⟩⟩⟩, ⟨by dsimp only; omega, okV_miss m0 eI, okV_up m1 (by decide), okV_up m2 (by decide), okV_hit m3 eO, okV_up m4 (by decide), okV_up m5 (by decide)⟩, by dsimp only; omega, ?_⟩
                          exact Wk.cq 14
                      · rw [if_neg (fun e => hh e.1)] at eI
                        rw [if_neg (fun e => hh e.1)] at eO
                        repeat' (first | ((with_reducible refine kAL ?_); (first | refine A_as rfl rfl rfl rfl ?_ | refine A_mt rfl rfl rfl rfl ?_ | (refine kL 105 rfl ?_; (first | refine A_add rfl rfl 3 3 _ _ rfl rfl rfl (by first | exact wi | rfl) ?_ | refine A_cmp (d := 143) rfl rfl (c := true) .lss 3 3 _ _ rfl rfl rfl (by exact congrArg some (decide_eq_true (by (try (dsimp only; fail_if_success done)); omega))) ?_ | refine A_cmp (d := 149) rfl rfl (c := true) .neq 3 3 _ _ rfl rfl rfl (by exact congrArg some (decide_eq_true (by (try (dsimp only; fail_if_success done)); omega))) ?_)) | refine A_load rfl rfl 3 _ rfl ud3 rfl rfl rfl rfl ?_ | refine A_field rfl rfl 45 _ 1 rfl ud45 rfl inf3 (by decide) 1 rfl rfl ?_ | refine AL.nil ?_)) | (with_reducible (first | refine wk0 ?_ | refine wk1 ?_ | refine wk2 ?_ | refine wk4 ?_ | refine wk7 ?_ | refine wkc ?_ | refine wkd ?_)) | refine kct rfl ?_ | with_reducible refine AW.at_region _ ?_)
                        all_goals first | (exfalso; omega) | skip
                        refine ⟨⟨1, ⟨⟨k0, n0, M0⟩, ⟨k1, n1, M1⟩, ⟨k2, n2, M2⟩, ⟨k3, n3, M3⟩, ⟨k4, n4, M4⟩, ⟨k5, n5, M5⟩⟩⟩, ⟨by dsimp only; omega, okV_miss m0 eI, okV_up m1 (by decide), okV_up m2 (by decide), okV_miss m3 eO, okV_up m4 (by decide), okV_up m5 (by decide)⟩, by dsimp only; omega, ?_⟩
                        exact Wk.cq 14
                    · obtain ⟨eI, eO⟩ := hat 1
                      by_cases hh : kh = 8 + 1
                      · by_cases hd : kd = 1
                        · rw [if_pos ⟨hh, hd⟩] at eI
                          rw [if_neg (fun e => e.2 hd)] at eO
                          subst hh
                          subst hd
                          repeat' (first | ((with_reducible refine kAL ?_); (first | refine A_as rfl rfl rfl rfl ?_ | refine A_mt rfl rfl rfl rfl ?_ | (refine kL 105 rfl ?_; (first | refine A_add rfl rfl 3 3 _ _ rfl rfl rfl (by first | exact wi | rfl) ?_ | refine A_cmp (d := 143) rfl rfl (c := true) .lss 3 3 _ _ rfl rfl rfl (by exact congrArg some (decide_eq_true (by (try (dsimp only; fail_if_success done)); omega))) ?_ | refine A_cmp (d := 149) rfl rfl (c := false) .neq 3 3 _ _ rfl rfl rfl (by exact congrArg some (decide_eq_false (by (try (dsimp only; fail_if_success done)); omega))) ?_ | refine A_cmp (d := 152) rfl rfl (c := true) .eql 3 3 _ _ rfl rfl rfl (by exact congrArg some (decide_eq_true (by (try (dsimp only; fail_if_success done)); omega))) ?_)) | refine A_load rfl rfl 3 _ rfl ud3 rfl rfl rfl rfl ?_ | (refine kL 1444 rfl ?_; (first | refine A_field rfl rfl 45 _ 1 rfl ud45 rfl inf3 (by decide) 1 rfl rfl ?_ | refine A_field rfl rfl 45 _ 0 rfl ud45 rfl inf3 (by decide) 0 rfl rfl ?_)) | refine AL.nil ?_)) | ((with_reducible refine kRG ?_); (first | refine R_mt rfl rfl rfl rfl ?_ | refine R_load rfl rfl 3 _ rfl ud3 rfl rfl rfl rfl ?_ | (refine kR 12 rfl ?_; refine R_append rfl rfl _ _ 22 rfl ud22 inf3 rfl rfl rfl (by (simp; omega)) (by exact .all rfl (by rfl)) qB qB (by exact app_one (f := tI) (x := _) (by omega)) qN qS ?_) | (refine kR 2022 rfl ?_; refine R_idx_arr rfl rfl 63 _ _ rfl ud63 inf22 rfl (by decide) 1 rfl (by decide) 1 rfl rfl ?_) | refine R_load rfl rfl 22 _ rfl ud22 rfl rfl rfl rfl ?_ | refine R_field rfl rfl 45 _ 2 rfl ud45 rfl inf3 (by decide) 2 rfl rfl ?_ | (refine kR 719 rfl ?_; refine R_lit (N := 14) rfl rfl 22 1 _ rfl ud22 inf3 (.cons rfl .nil) (els := [[_]]) rfl (by exact (rfl : _ = List.map tI [_])) rfl (Nat.ne_of_beq_eq_false rfl) (Nat.le_of_ble_eq_true rfl) (Nat.le_of_ble_eq_true rfl) rfl qN ?_) | refine R_store rfl rfl 22 _ _ rfl inf22 rfl rfl rfl rfl (Nat.le_of_ble_eq_true rfl) qN qN ?_ | refine RG.nil ⟨by kernel_rfl, ?_⟩)) | (with_reducible (first | refine wk0 ?_ | refine wk1 ?_ | refine wk2 ?_ | refine wk5 ?_ | refine wkd ?_)) | refine kct rfl ?_ | refine kcf rfl ?_ | with_reducible refine AW.at_region _ ?_ | refine AW.at_draw 28 mixed 2 [[], [], [1], [1, 2], [], [4], [4, 5], [1, 2, 3, 4, 5, 6], [0, 1, 2, 3, 4, 5, 6, 7], [0, 1, 2, 3, 4, 5, 6, 7, 8]] qR ?_)
                          all_goals first | (exfalso; omega) | skip
                          refine ⟨⟨2, ⟨⟨k0, n0, M0⟩, ⟨k1 + 1, n1 + 1, M1 ++ [kv]⟩, ⟨k2, n2, M2⟩, ⟨k3, n3, M3⟩, ⟨k4, n4, M4⟩, ⟨k5, n5, M5⟩⟩⟩, ⟨by dsimp only; omega, okV_up m0 (by decide), okV_hit m1 eI, okV_up m2 (by decide), okV_up m3 (by decide), okV_miss m4 eO, okV_up m5 (by decide)⟩, by dsimp only; omega, ?_⟩
                          exact Wk.cq 14
                        · rw [if_neg (fun e => hd e.2)] at eI
                          rw [if_pos ⟨hh, hd⟩] at eO
                          subst hh
                          repeat' (first | ((with_reducible refine kAL ?_); (first | refine A_as rfl rfl rfl rfl ?_ | refine A_mt rfl rfl rfl rfl ?_ | (refine kL 105 rfl ?_; (first | refine A_add rfl rfl 3 3 _ _ rfl rfl rfl (by first | exact wi | rfl) ?_ | refine A_cmp (d := 143) rfl rfl (c := true) .lss 3 3 _ _ rfl rfl rfl (by exact congrArg some (decide_eq_true (by (try (dsimp only; fail_if_success done)); omega))) ?_ | refine A_cmp (d := 149) rfl rfl (c := false) .neq 3 3 _ _ rfl rfl rfl (by exact congrArg some (decide_eq_false (by (try (dsimp only; fail_if_success done)); omega))) ?_ | refine A_cmp (d := 152) rfl rfl (c := false) .eql 3 3 _ _ rfl rfl rfl (by exact congrArg some (decide_eq_false (by (try (dsimp only; fail_if_success done)); omega))) ?_)) | refine A_load rfl rfl 3 _ rfl ud3 rfl rfl rfl rfl ?_ | (refine kL 1444 rfl ?_; (first | refine A_field rfl rfl 45 _ 1 rfl ud45 rfl inf3 (by decide) 1 rfl rfl ?_ | refine A_field rfl rfl 45 _ 0 rfl ud45 rfl inf3 (by decide) 0 rfl rfl ?_)) | refine AL.nil ?_)) | ((with_reducible refine kRG ?_); (first | refine R_mt rfl rfl rfl rfl ?_ | refine R_field rfl rfl 50 _ 3 rfl ud50 rfl inf3 (by decide) 3 rfl rfl ?_ | refine R_load rfl rfl 3 _ rfl ud3 rfl rfl rfl rfl ?_ | (refine kR 12 rfl ?_; refine R_append rfl rfl _ _ 22 rfl ud22 inf3 rfl rfl rfl (by (simp; omega)) (by exact .all rfl (by rfl)) qB qB (by exact app_one (f := tI) (x := _) (by omega)) qN qS ?_) | (refine kR 2022 rfl ?_; refine R_idx_arr rfl rfl 63 _ _ rfl ud63 inf22 rfl (by decide) 1 rfl (by decide) 1 rfl rfl ?_) | refine R_load rfl rfl 22 _ rfl ud22 rfl rfl rfl rfl ?_ | (refine kR 719 rfl ?_; refine R_lit (N := 14) rfl rfl 22 1 _ rfl ud22 inf3 (.cons rfl .nil) (els := [[_]]) rfl (by exact (rfl : _ = List.map tI [_])) rfl (Nat.ne_of_beq_eq_false rfl) (Nat.le_of_ble_eq_true rfl) (Nat.le_of_ble_eq_true rfl) rfl qN ?_) | refine R_store rfl rfl 22 _ _ rfl inf22 rfl rfl rfl rfl (Nat.le_of_ble_eq_true rfl) qN qN ?_ | refine RG.nil ⟨by kernel_rfl, ?_⟩)) | (with_reducible (first | refine wk0 ?_ | refine wk1 ?_ | refine wk2 ?_ | refine wk5 ?_ | refine wkd ?_)) | refine kct rfl ?_ | refine kcf rfl ?_ | with_reducible refine AW.at_region _ ?_ | refine AW.at_draw 29 mixed 2 [[], [], [1], [1, 2], [], [4], [4, 5], [1, 2, 3, 4, 5, 6], [0, 1, 2, 3, 4, 5, 6, 7], [0, 1, 2, 3, 4, 5, 6, 7, 8]] qR ?_)
                          all_goals first | (exfalso; omega) | skip
                          refine ⟨⟨2, ⟨⟨k0, n0, M0⟩, ⟨k1, n1, M1⟩, ⟨k2, n2, M2⟩, ⟨k3, n3, M3⟩, ⟨k4 + 1, n4 + 1, M4 ++ [r4]⟩, ⟨k5, n5, M5⟩⟩⟩, ⟨by dsimp only; omega, okV_up m0 (by decide), okV_miss m1 eI, okV_up m2 (by decide), okV_up m3 (by decide), okV_hit m4 eO, okV_up m5 (by decide)⟩, by dsimp only; omega, ?_⟩
                          exact Wk.cq 14
                      · rw [if_neg (fun e => hh e.1)] at eI
                        rw [if_neg (fun e => hh e.1)] at eO
                        repeat' (first | ((with_reducible refine kAL ?_); (first | refine A_as rfl rfl rfl rfl ?_ | refine A_mt rfl rfl rfl rfl ?_ | (refine kL 105 rfl ?_; (first | refine A_add rfl rfl 3 3 _ _ rfl rfl rfl (by first | exact wi | rfl) ?_ | refine A_cmp (d := 143) rfl rfl (c := true) .lss 3 3 _ _ rfl rfl rfl (by exact congrArg some (decide_eq_true (by (try (dsimp only; fail_if_success done)); omega))) ?_ | refine A_cmp (d := 149) rfl rfl (c := true) .neq 3 3 _ _ rfl rfl rfl (by exact congrArg some (decide_eq_true (by (try (dsimp only; fail_if_success done)); omega))) ?_)) | refine A_load rfl rfl 3 _ rfl ud3 rfl rfl rfl rfl ?_ | refine A_field rfl rfl 45 _ 1 rfl ud45 rfl inf3 (by decide) 1 rfl rfl ?_ | refine AL.nil ?_)) | (with_reducible (first | refine wk0 ?_ | refine wk1 ?_ | refine wk2 ?_ | refine wk4 ?_ | refine wk7 ?_ | refine wkc ?_ | refine wkd ?_)) | refine kct rfl ?_ | with_reducible refine AW.at_region _ ?_)
                        all_goals first | (exfalso; omega) | skip
                        refine ⟨⟨2, ⟨⟨k0, n0, M0⟩, ⟨k1, n1, M1⟩, ⟨k2, n2, M2⟩, ⟨k3, n3, M3⟩, ⟨k4, n4, M4⟩, ⟨k5, n5, M5⟩⟩⟩, ⟨by dsimp only; omega, okV_up m0 (by decide), okV_miss m1 eI, okV_up m2 (by decide), okV_up m3 (by decide), okV_miss m4 eO, okV_up m5 (by decide)⟩, by dsimp only; omega, ?_⟩
                        exact Wk.cq 14
                    · obtain ⟨eI, eO⟩ := hat 2
                      by_cases hh : kh = 8 + 2
                      · by_cases hd : kd = 1
                        · rw [if_pos ⟨hh, hd⟩] at eI
                          rw [if_neg (fun e => e.2 hd)] at eO
                          subst hh
                          subst hd
                          repeat' (first | ((with_reducible refine kAL ?_); (first | refine A_as rfl rfl rfl rfl ?_ | refine A_mt rfl rfl rfl rfl ?_ | (refine kL 105 rfl ?_; (first | refine A_add rfl rfl 3 3 _ _ rfl rfl rfl (by first | exact wi | rfl) ?_ | refine A_cmp (d := 143) rfl rfl (c := true) .lss 3 3 _ _ rfl rfl rfl (by exact congrArg some (decide_eq_true (by (try (dsimp only; fail_if_success done)); omega))) ?_ | refine A_cmp (d := 149) rfl rfl (c := false) .neq 3 3 _ _ rfl rfl rfl (by exact congrArg some (decide_eq_false (by (try (dsimp only; fail_if_success done)); omega))) ?_ | refine A_cmp (d := 152) rfl rfl (c := true) .eql 3 3 _ _ rfl rfl rfl (by exact congrArg some (decide_eq_true (by (try (dsimp only; fail_if_success done)); omega))) ?_)) | refine A_load rfl rfl 3 _ rfl ud3 rfl rfl rfl rfl ?_ | (refine kL 1444 rfl ?_; (first | refine A_field rfl rfl 45 _ 1 rfl ud45 rfl inf3 (by decide) 1 rfl rfl ?_ | refine A_field rfl rfl 45 _ 0 rfl ud45 rfl inf3 (by decide) 0 rfl rfl ?_)) | refine AL.nil ?_)) | ((with_reducible refine kRG ?_); (first | refine R_mt rfl rfl rfl rfl ?_ | refine R_load rfl rfl 3 _ rfl ud3 rfl rfl rfl rfl ?_ | (refine kR 12 rfl ?_; refine R_append rfl rfl _ _ 22 rfl ud22 inf3 rfl rfl rfl (by (simp; omega)) (by exact .all rfl (by rfl)) qB qB (by exact app_one (f := tI) (x := _) (by omega)) qN qS ?_) | (refine kR 2022 rfl ?_; refine R_idx_arr rfl rfl 63 _ _ rfl ud63 inf22 rfl (by decide) 2 rfl (by decide) 2 rfl rfl ?_) | refine R_load rfl rfl 22 _ rfl ud22 rfl rfl rfl rfl ?_ | refine R_field rfl rfl 45 _ 2 rfl ud45 rfl inf3 (by decide) 2 rfl rfl ?_ | (refine kR 719 rfl ?_; refine R_lit (N := 14) rfl rfl 22 1 _ rfl ud22 inf3 (.cons rfl .nil) (els := [[_]]) rfl (by exact (rfl : _ = List.map tI [_])) rfl (Nat.ne_of_beq_eq_false rfl) (Nat.le_of_ble_eq_true rfl) (Nat.le_of_ble_eq_true rfl) rfl qN ?_) | refine R_store rfl rfl 22 _ _ rfl inf22 rfl rfl rfl rfl (Nat.le_of_ble_eq_true rfl) qN qN ?_ | refine RG.nil ⟨by kernel_rfl, ?_⟩)) | (with_reducible (first | refine wk0 ?_ | refine wk1 ?_ | refine wk2 ?_ | refine wk5 ?_ | refine wkd ?_)) | refine kct rfl ?_ | refine kcf rfl ?_ | with_reducible refine AW.at_region _ ?_ | refine AW.at_draw 28 mixed 2 [[], [], [1], [1, 2], [], [4], [4, 5], [1, 2, 3, 4, 5, 6], [0, 1, 2, 3, 4, 5, 6, 7], [0, 1, 2, 3, 4, 5, 6, 7, 8]] qR ?_)
                          all_goals first | (exfalso; omega) | skip
                          refine ⟨⟨3, ⟨⟨k0, n0, M0⟩, ⟨k1, n1, M1⟩, ⟨k2 + 1, n2 + 1, M2 ++ [kv]⟩, ⟨k3, n3, M3⟩, ⟨k4, n4, M4⟩, ⟨k5, n5, M5⟩⟩⟩, ⟨by dsimp only; omega, okV_up m0 (by decide), okV_up m1 (by decide), okV_hit m2 eI, okV_up m3 (by decide), okV_up m4 (by decide), okV_miss m5 eO⟩, by dsimp only; omega, ?_⟩
                          exact Wk.cq 14
                        · rw [if_neg (fun e => hd e.2)] at eI
                          rw [if_pos ⟨hh, hd⟩] at eO
                          subst hh
                          repeat' (first | ((with_reducible refine kAL ?_); (first | refine A_as rfl rfl rfl rfl ?_ | refine A_mt rfl rfl rfl rfl ?_ | (refine kL 105 rfl ?_; (first | refine A_add rfl rfl 3 3 _ _ rfl rfl rfl (by first | exact wi | rfl) ?_ | refine A_cmp (d := 143) rfl rfl (c := true) .lss 3 3 _ _ rfl rfl rfl (by exact congrArg some (decide_eq_true (by (try (dsimp only; fail_if_success done)); omega))) ?_ | refine A_cmp (d := 149) rfl rfl (c := false) .neq 3 3 _ _ rfl rfl rfl (by exact congrArg some (decide_eq_false (by (try (dsimp only; fail_if_success done)); omega))) ?_ | refine A_cmp (d := 152) rfl rfl (c := false) .eql 3 3 _ _ rfl rfl rfl (by exact congrArg some (decide_eq_false (by (try (dsimp only; fail_if_success done)); omega))) ?_)) | refine A_load rfl rfl 3 _ rfl ud3 rfl rfl rfl rfl ?_ | (refine kL 1444 rfl ?_; (first | refine A_field rfl rfl 45 _ 1 rfl ud45 rfl inf3 (by decide) 1 rfl rfl ?_ | refine A_field rfl rfl 45 _ 0 rfl ud45 rfl inf3 (by decide) 0 rfl rfl ?_)) | refine AL.nil ?_)) | ((with_reducible refine kRG ?_); (first | refine R_mt rfl rfl rfl rfl ?_ | refine R_field rfl rfl 50 _ 3 rfl ud50 rfl inf3 (by decide) 3 rfl rfl ?_ | refine R_load rfl rfl 3 _ rfl ud3 rfl rfl rfl rfl ?_ | (refine kR 12 rfl ?_; refine R_append rfl rfl _ _ 22 rfl ud22 inf3 rfl rfl rfl (by (simp; omega)) (by exact .all rfl (by rfl)) qB qB (by exact app_one (f := tI) (x := _) (by omega)) qN qS ?_) | (refine kR 2022 rfl ?_; refine R_idx_arr rfl rfl 63 _ _ rfl ud63 inf22 rfl (by decide) 2 rfl (by decide) 2 rfl rfl ?_) | refine R_load rfl rfl 22 _ rfl ud22 rfl rfl rfl rfl ?_ | (refine kR 719 rfl ?_; refine R_lit (N := 14) rfl rfl 22 1 _ rfl ud22 inf3 (.cons rfl .nil) (els := [[_]]) rfl (by exact (rfl : _ = List.map tI [_])) rfl (Nat.ne_of_beq_eq_false rfl) (Nat.le_of_ble_eq_true rfl) (Nat.le_of_ble_eq_true rfl) rfl qN ?_) | refine R_store rfl rfl 22 _ _ rfl inf22 rfl rfl rfl rfl (Nat.le_of_ble_eq_true rfl) qN qN ?_ | refine RG.nil ⟨by kernel_rfl, ?_⟩)) | (with_reducible (first | refine wk0 ?_ | refine wk1 ?_ | refine wk2 ?_ | refine wk5 ?_ | refine wkd ?_)) | refine kct rfl ?_ | refine kcf rfl ?_ | with_reducible refine AW.at_region _ ?_ | refine AW.at_draw 29 mixed 2 [[], [], [1], [1, 2], [], [4], [4, 5], [1, 2, 3, 4, 5, 6], [0, 1, 2, 3, 4, 5, 6, 7], [0, 1, 2, 3, 4, 5, 6, 7, 8]] qR ?_)
                          all_goals first | (exfalso; omega) | skip
                          refine ⟨⟨3, ⟨⟨k0, n0, M0⟩, ⟨k1, n1, M1⟩, ⟨k2, n2, M2⟩, ⟨k3, n3, M3⟩, ⟨k4, n4, M4⟩, ⟨k5 + 1, n5 + 1, M5 ++ [r4]⟩⟩⟩, ⟨by dsimp only; omega, okV_up m0 (by decide), okV_up m1 (by decide), okV_miss m2 eI, okV_up m3 (by decide), okV_up m4 (by decide), okV_hit m5 eO⟩, by dsimp only; omega, ?_⟩
                          exact Wk.cq 14
                      · rw [if_neg (fun e => hh e.1)] at eI
                        rw [if_neg (fun e => hh e.1)] at eO
                        repeat' (first | ((with_reducible refine kAL ?_); (first | refine A_as rfl rfl rfl rfl ?_ | refine A_mt rfl rfl rfl rfl ?_ | (refine kL 105 rfl ?_; (first | refine A_add rfl rfl 3 3 _ _ rfl rfl rfl (by first | exact wi | rfl) ?_ | refine A_cmp (d := 143) rfl rfl (c := true) .lss 3 3 _ _ rfl rfl rfl (by exact congrArg some (decide_eq_true (by (try (dsimp only; fail_if_success done)); omega))) ?_ | refine A_cmp (d := 149) rfl rfl (c := true) .neq 3 3 _ _ rfl rfl rfl (by exact congrArg some (decide_eq_true (by (try (dsimp only; fail_if_success done)); omega))) ?_)) | refine A_load rfl rfl 3 _ rfl ud3 rfl rfl rfl rfl ?_ | refine A_field rfl rfl 45 _ 1 rfl ud45 rfl inf3 (by decide) 1 rfl rfl ?_ | refine AL.nil ?_)) | (with_reducible (first | refine wk0 ?_ | refine wk1 ?_ | refine wk2 ?_ | refine wk4 ?_ | refine wk7 ?_ | refine wkc ?_ | refine wkd ?_)) | refine kct rfl ?_ | with_reducible refine AW.at_region _ ?_)
                        all_goals first | (exfalso; omega) | skip
                        refine ⟨⟨3, ⟨⟨k0, n0, M0⟩, ⟨k1, n1, M1⟩, ⟨k2, n2, M2⟩, ⟨k3, n3, M3⟩, ⟨k4, n4, M4⟩, ⟨k5, n5, M5⟩⟩⟩, ⟨by dsimp only; omega, okV_up m0 (by decide), okV_up m1 (by decide), okV_miss m2 eI, okV_up m3 (by decide), okV_up m4 (by decide), okV_miss m5 eO⟩, by dsimp only; omega, ?_⟩
                        exact Wk.cq 14
                  · have e : p = 3 := by omega
                    subst e
                    repeat' (first | ((with_reducible refine kAL ?_); (first | refine A_mt rfl rfl rfl rfl ?_ | (refine kL 105 rfl ?_; (first | refine A_add rfl rfl 3 3 _ _ rfl rfl rfl (by first | exact wi | rfl) ?_ | refine A_cmp (d := 143) rfl rfl (c := false) .lss 3 3 _ _ rfl rfl rfl (by exact congrArg some (decide_eq_false (by (try (dsimp only; fail_if_success done)); omega))) ?_)) | refine AL.nil ?_)) | (with_reducible (first | refine wk0 ?_ | refine wk2 ?_ | refine wk4 ?_ | refine wk5 ?_ | refine wk7 ?_ | refine wkc ?_)) | refine kcf rfl ?_ | with_reducible refine AW.at_region _ ?_)
                    all_goals first | (exfalso; omega) | skip
                    refine ⟨⟨t + 1, ⟨⟨k0, n0, M0⟩, ⟨k1, n1, M1⟩, ⟨k2, n2, M2⟩, ⟨k3, n3, M3⟩, ⟨k4, n4, M4⟩, ⟨k5, n5, M5⟩⟩⟩, ⟨by dsimp only; omega, okV_eI hX0 m0 (by decide), okV_eI hX1 m1 (by decide), okV_eI hX2 m2 (by decide), okV_eO hX3 m3 (by decide), okV_eO hX4 m4 (by decide), okV_eO hX5 m5 (by decide)⟩, by dsimp only; omega, ?_⟩
                    exact Wk.cq 12
            · have e : t = n := by omega
              subst e
              repeat' (first | ((with_reducible refine kAL ?_); (first | refine A_mt rfl rfl rfl rfl ?_ | (refine kL 105 rfl ?_; (first | refine A_add rfl rfl 3 3 _ _ rfl rfl rfl (by first | exact wi | rfl) ?_ | refine A_cmp (d := 98) rfl rfl (c := false) .lss 3 3 _ _ rfl rfl rfl (by exact congrArg some (decide_eq_false (by (try (dsimp only; fail_if_success done)); omega))) ?_)) | refine AL.nil ?_)) | (with_reducible (first | refine wk0 ?_ | refine wk2 ?_ | refine wk4 ?_ | refine wk5 ?_ | refine wk7 ?_ | refine wkc ?_)) | refine kcf rfl ?_ | with_reducible refine AW.at_region _ ?_)
              all_goals first | (exfalso; omega) | skip
              refine ⟨⟨q + 1, ⟨⟨k0, n0, M0⟩, ⟨k1, n1, M1⟩, ⟨k2, n2, M2⟩, ⟨k3, n3, M3⟩, ⟨k4, n4, M4⟩, ⟨k5, n5, M5⟩⟩⟩, ⟨by dsimp only; omega, (by rw [r2]; exact m0), (by rw [r2]; exact m1), (by rw [r2]; exact m2), (by rw [r3]; exact m3), (by rw [r3]; exact m4), (by rw [r3]; exact m5)⟩, by dsimp only; omega, ?_⟩
              rw [hG, hRR]
              exact Wk.cq 11
      · have e : q = l.length := by omega
        subst e
        have hz := fun p hp => hOd l.length p hp
        rw [ln.c] at hz
        clear hA hB hN hgo hst
        have b0 : n0 ≤ 500 ∧ M0.length = n0 ∧ (M0.map tI).length = n0 := okV_l g0 (hbI 0 l.length (Nat.le_refl _))
        have b1 : n1 ≤ 500 ∧ M1.length = n1 ∧ (M1.map tI).length = n1 := okV_l g1 (hbI 1 l.length (Nat.le_refl _))
        have b2 : n2 ≤ 500 ∧ M2.length = n2 ∧ (M2.map tI).length = n2 := okV_l g2 (hbI 2 l.length (Nat.le_refl _))
        have b3 : n3 ≤ 500 ∧ M3.length = n3 ∧ (M3.map tI).length = n3 := okV_l g3 (hbO 0 l.length (Nat.le_refl _))
        have b4 : n4 ≤ 500 ∧ M4.length = n4 ∧ (M4.map tI).length = n4 := okV_l g4 (hbO 1 l.length (Nat.le_refl _))
        have b5 : n5 ≤ 500 ∧ M5.length = n5 ∧ (M5.map tI).length = n5 := okV_l g5 (hbO 2 l.length (Nat.le_refl _))
        generalize H l.length = K at *
        generalize R l.length = R' at *
        have hg0 := g0.1
        have hg1 := g1.1
        have hg2 := g2.1
        have hg3 := g3.1
        have hg4 := g4.1
        have hg5 := g5.1
        have cB := fun p (hp : p < 3) => begins_o (hz p (by omega) hp) (hbI p l.length (Nat.le_refl _)) (hbO p l.length (Nat.le_refl _))
        have B0 := cB 0 (by decide)
        have B1 := cB 1 (by decide)
        have B2 := cB 2 (by decide)
        dsimp only at hg0 hg1 hg2 hg3 hg4 hg5
        rw [← hg0, ← hg3] at B0
        rw [← hg1, ← hg4] at B1
        rw [← hg2, ← hg5] at B2
        repeat' (first | ((with_reducible refine kAL ?_); (first | refine A_mt rfl rfl rfl rfl ?_ | refine A_cmp (d := 39) rfl rfl (c := false) .lss 3 3 _ _ rfl rfl rfl (by exact congrArg some (decide_eq_false (by (try (dsimp only; fail_if_success done)); omega))) ?_ | refine AL.nil ?_)) | (with_reducible (first | refine wk0 ?_ | refine wk1 ?_ | refine wk2 ?_ | refine wk4 ?_ | refine wk7 ?_ | refine wkc ?_)) | refine kcf rfl ?_ | with_reducible refine AW.at_region _ ?_)
        all_goals first | (exfalso; omega) | skip
        refine AW.loopP (fun (p : Nat) => p ≤ 3) (fun (p : Nat) => (pu (pu (pu (pu (pu (pu (pu (fun _ => .any) 0 (i64 n)) 5 (.ptr 0 0)) 6 (.ptr 1 0)) 7 (.sl 2 0 n)) 8 (.ptr 3 0)) 9 (.ptr 4 0)) 174 (i64 p))) (fun (p : Nat) => [.box 24 [i64 3, i64 n, i64 3, i64 2, i64 4, i64 1, i64 0, i64 9, i64 99, i64 3, .t (.lst ([0, 1].map tI))], .box 29 [i64 (K).ticket, .t (.lst ((K).chans.map tCh)), .t (.lst ((K).waits.map tWt)), .t (.lst ((K).done.map tR))], .row 0 32 5 ((R').map tRq), .box 63 [.sl 5 k0 n0, .sl 6 k1 n1, .sl 7 k2 n2], .box 63 [.sl 8 k3 n3, .sl 9 k4 n4, .sl 10 k5 n5], .row k0 3 1 (M0.map tI), .row k1 3 1 (M1.map tI), .row k2 3 1 (M2.map tI), .row k3 3 1 (M3.map tI), .row k4 3 1 (M4.map tI), .row k5 3 1 (M5.map tI)]) (fun (p : Nat) => 3 - p) (0) ?_ ?_ ?_
        · exact Nat.zero_le _
        · exact Wk.cq 11
        · intro p hp0
          by_cases hp3 : p < 3
          · have hpc : p = 0 ∨ p = 1 ∨ p = 2 := by omega
            rcases hpc with rfl | rfl | rfl
            · repeat' (first | ((with_reducible refine kAL ?_); (first | refine A_as rfl rfl rfl rfl ?_ | refine A_mt rfl rfl rfl rfl ?_ | (refine kL 105 rfl ?_; (first | refine A_add rfl rfl 3 3 _ _ rfl rfl rfl (by first | exact wi | rfl) ?_ | refine A_cmp (d := 175) rfl rfl (c := true) .lss 3 3 _ _ rfl rfl rfl (by exact congrArg some (decide_eq_true (by (try (dsimp only; fail_if_success done)); omega))) ?_)) | refine AL.nil ?_)) | ((with_reducible refine kRG ?_); (first | refine R_mt rfl rfl rfl rfl ?_ | (refine kR 2022 rfl ?_; refine R_idx_arr rfl rfl 63 _ _ rfl ud63 inf22 rfl (by decide) 0 rfl (by decide) 0 rfl rfl ?_) | refine R_load rfl rfl 22 _ rfl ud22 rfl rfl rfl rfl ?_ | (refine kR 906 rfl ?_; (refine R_cl rfl rfl Try.func28 rfl (B0) ?_; refine ⟨0, _, _, _, rfl, qU, qU, qZ, ?_⟩)) | refine R_not rfl rfl _ _ rfl rfl ?_ | refine RG.nil ⟨by kernel_rfl, ?_⟩)) | (with_reducible (first | refine wk0 ?_ | refine wk1 ?_ | refine wk2 ?_ | refine wk5 ?_ | refine wkd ?_)) | refine kct rfl ?_ | refine kcf rfl ?_ | with_reducible refine AW.at_region _ ?_ | refine AW.at_draw 36 mixed 0 [[], [0], [0, 1], [], [3], [3, 4], [0, 1, 2, 3, 4, 5], [0, 1, 2, 3, 4, 5, 6]] qR ?_)
              all_goals first | (exfalso; omega) | skip
              refine ⟨1, by omega, by omega, ?_⟩
              exact Wk.cq 11
            · repeat' (first | ((with_reducible refine kAL ?_); (first | refine A_as rfl rfl rfl rfl ?_ | refine A_mt rfl rfl rfl rfl ?_ | (refine kL 105 rfl ?_; (first | refine A_add rfl rfl 3 3 _ _ rfl rfl rfl (by first | exact wi | rfl) ?_ | refine A_cmp (d := 175) rfl rfl (c := true) .lss 3 3 _ _ rfl rfl rfl (by exact congrArg some (decide_eq_true (by (try (dsimp only; fail_if_success done)); omega))) ?_)) | refine AL.nil ?_)) | ((with_reducible refine kRG ?_); (first | refine R_mt rfl rfl rfl rfl ?_ | (refine kR 2022 rfl ?_; refine R_idx_arr rfl rfl 63 _ _ rfl ud63 inf22 rfl (by decide) 1 rfl (by decide) 1 rfl rfl ?_) | refine R_load rfl rfl 22 _ rfl ud22 rfl rfl rfl rfl ?_ | (refine kR 906 rfl ?_; (refine R_cl rfl rfl Try.func28 rfl (B1) ?_; refine ⟨0, _, _, _, rfl, qU, qU, qZ, ?_⟩)) | refine R_not rfl rfl _ _ rfl rfl ?_ | refine RG.nil ⟨by kernel_rfl, ?_⟩)) | (with_reducible (first | refine wk0 ?_ | refine wk1 ?_ | refine wk2 ?_ | refine wk5 ?_ | refine wkd ?_)) | refine kct rfl ?_ | refine kcf rfl ?_ | with_reducible refine AW.at_region _ ?_ | refine AW.at_draw 36 mixed 0 [[], [0], [0, 1], [], [3], [3, 4], [0, 1, 2, 3, 4, 5], [0, 1, 2, 3, 4, 5, 6]] qR ?_)
              all_goals first | (exfalso; omega) | skip
              refine ⟨2, by omega, by omega, ?_⟩
              exact Wk.cq 11
            · repeat' (first | ((with_reducible refine kAL ?_); (first | refine A_as rfl rfl rfl rfl ?_ | refine A_mt rfl rfl rfl rfl ?_ | (refine kL 105 rfl ?_; (first | refine A_add rfl rfl 3 3 _ _ rfl rfl rfl (by first | exact wi | rfl) ?_ | refine A_cmp (d := 175) rfl rfl (c := true) .lss 3 3 _ _ rfl rfl rfl (by exact congrArg some (decide_eq_true (by (try (dsimp only; fail_if_success done)); omega))) ?_)) | refine AL.nil ?_)) | ((with_reducible refine kRG ?_); (first | refine R_mt rfl rfl rfl rfl ?_ | (refine kR 2022 rfl ?_; refine R_idx_arr rfl rfl 63 _ _ rfl ud63 inf22 rfl (by decide) 2 rfl (by decide) 2 rfl rfl ?_) | refine R_load rfl rfl 22 _ rfl ud22 rfl rfl rfl rfl ?_ | (refine kR 906 rfl ?_; (refine R_cl rfl rfl Try.func28 rfl (B2) ?_; refine ⟨0, _, _, _, rfl, qU, qU, qZ, ?_⟩)) | refine R_not rfl rfl _ _ rfl rfl ?_ | refine RG.nil ⟨by kernel_rfl, ?_⟩)) | (with_reducible (first | refine wk0 ?_ | refine wk1 ?_ | refine wk2 ?_ | refine wk5 ?_ | refine wkd ?_)) | refine kct rfl ?_ | refine kcf rfl ?_ | with_reducible refine AW.at_region _ ?_ | refine AW.at_draw 36 mixed 0 [[], [0], [0, 1], [], [3], [3, 4], [0, 1, 2, 3, 4, 5], [0, 1, 2, 3, 4, 5, 6]] qR ?_)
              all_goals first | (exfalso; omega) | skip
              refine ⟨3, by omega, by omega, ?_⟩
              exact Wk.cq 11
          · have e : p = 3 := by omega
            subst e
            repeat' (first | ((with_reducible refine kAL ?_); (first | refine A_as rfl rfl rfl rfl ?_ | refine A_cmp (d := 175) rfl rfl (c := false) .lss 3 3 _ _ rfl rfl rfl (by exact congrArg some (decide_eq_false (by (try (dsimp only; fail_if_success done)); omega))) ?_ | (refine kL 810 rfl ?_; refine A_cl rfl rfl Try.func25 rfl (cA) ?_) | refine AL.nil ?_)) | (with_reducible (first | refine wk0 ?_ | refine wk2 ?_ | refine wk4 ?_ | refine wk7 ?_ | refine wk9 ?_ | refine wkb ?_ | refine wkc ?_)) | refine kcf rfl ?_ | with_reducible refine AW.at_region _ ?_)
            all_goals first | (exfalso; omega) | (exact Fin.q Try.results8 (.cons (.tmp rfl) .nil) [])
end Go.Proofs.Ytphcebioiipdpaa


namespace Go.Proofs.Ytphcebioiipdpaa
set_option linter.unusedVariables false
set_option linter.unusedSimpArgs false
set_option linter.unnecessarySimpa false
end Go.Proofs.Ytphcebioiipdpaa

