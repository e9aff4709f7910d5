/- Joined: XTHallP, XTAbb, XTHallC, XTHallI, XTStartR, XTRunP, XTIdxF. -/
import Derived.Test.YtbpgopomninedaaGreatKAm
import Derived.Test.YtbpgopomninedaaGreatKAe
import Derived.Test.YtbpgopomninedaaGreatKAk
import Derived.Test.YtbpgopomninedaaGreatKAg
import Derived.Test.YtbpgopomninedaaGreatKAd
import Derived.Test.YtbpgopomninedaaGreatKAc
namespace Go.Proofs.YtbpgopomninedaaGreat
open Go.RowKit
set_option linter.unusedVariables false
set_option linter.unusedSimpArgs false
set_option linter.unnecessarySimpa false
set_option maxRecDepth 100000
set_option maxHeartbeats 64000000
section
def chA (h : DHall) (p : Int) : DChan := h.chans.getD p.toNat default
def fndOk (h : DHall) (x : Int) : Bool := plOk x && decide (plP x < (h.chans.length : Int)) && (chA h (plP x)).used && decide ((chA h (plP x)).gen = plG x)
def fndP (h : DHall) (x : Int) : Int := if fndOk h x then plP x else 0
def noteL (d : List Rst) (t : Int) (r : Rst) : List Rst := if 0 ≤ t ∧ t < (d.length : Int) then d.set t.toNat r else d
def tellL (d : List Rst) (l : List DTold) : List Rst := l.foldl (fun d x => noteL d x.thread x.result) d
theorem noteL_len (d : List Rst) (t : Int) (r : Rst) : (noteL d t r).length = d.length := by unfold noteL; split <;> simp
theorem tellL_len (l : List DTold) : ∀ d : List Rst, (tellL d l).length = d.length := by
 induction l with
 | nil => intro d; rfl
 | cons x l ih => intro d; show (tellL (noteL d x.thread x.result) l).length = _; rw [ih, noteL_len]
theorem tellL_next {d : List Rst} {l : List DTold} {q : Nat} {x : DTold} (h : l[q]? = some x) : tellL d (l.take (q + 1)) = noteL (tellL d (l.take q)) x.thread x.result := by unfold tellL; rw [List.take_add_one, h, List.foldl_append]; rfl
theorem fnd_yes {h : DHall} {x : Int} (e : fndOk h x = true) : ∃ (n : Nat) (c : DChan), plOk x = true ∧ plP x = n ∧ h.chans[n]? = some c ∧ c.used = true ∧ c.gen = plG x ∧ fndP h x = n ∧ chA h n = c ∧ n < h.chans.length := by
 have e0 := e
 unfold fndOk at e
 simp only [Bool.and_eq_true, decide_eq_true_eq] at e
 obtain ⟨⟨⟨e1, e2⟩, e3⟩, e4⟩ := e
 have hb : 8 ≤ x ∧ x ≤ 32767 := by unfold plOk at e1; exact of_decide_eq_true e1
 have hp := (pl_yes hb.1 hb.2).1
 obtain ⟨n, hn⟩ : ∃ n : Nat, plP x = n := ⟨(plP x).toNat, by omega⟩
 rw [hn] at e2 e3 e4
 have hl : n < h.chans.length := by omega
 have hg : chA h (n : Int) = h.chans[n] := by unfold chA; rw [Int.toNat_natCast, getD_of (List.getElem?_eq_getElem hl)]
 rw [hg] at e3 e4
 exact ⟨n, h.chans[n], e1, hn, List.getElem?_eq_getElem hl, e3, e4, by unfold fndP; rw [if_pos e0, hn], hg, hl⟩
theorem fnd_no {h : DHall} {x : Int} (e : fndOk h x = false) : fndP h x = 0 := by unfold fndP; rw [e]; rfl
def okO (c : DConf) (x : DChan) : Bool := !x.used && decide (x.gen < min c.gens 4095)
def cH (h : DHall) (l : List DChan) : DHall := ⟨h.ticket, l, h.waits, h.done⟩
def openH (c : DConf) (h : DHall) (cap : Int) : DHall × Rst :=
 if cap < 0 ∨ c.cap < cap then (h, ⟨0, 0, 1, 0⟩)
 else if 0 ≤ ixF (okO c) h.chans then
  (cH h (h.chans.set (ixF (okO c) h.chans).toNat ⟨(chA h (ixF (okO c) h.chans)).gen + 1, cap, true, false, []⟩), ⟨0, 0, 0, hdl (ixF (okO c) h.chans) ((chA h (ixF (okO c) h.chans)).gen + 1)⟩)
 else (h, ⟨0, 0, if h.chans.any (fun x => !x.used) then 7 else 6, 0⟩)
def idleC (c : DChan) (x : Int) (l : List DWait) : Bool := c.used && c.closed && decide (c.buf = []) && decide (onS l x = [])
def freeH (h : DHall) (x : Int) : DHall × Rst :=
 if fndOk h x then
  if idleC (chA h (fndP h x)) x h.waits then (cH h (h.chans.set (fndP h x).toNat ⟨(chA h (fndP h x)).gen, 0, false, false, []⟩), ⟨0, 0, 0, 0⟩) else (h, ⟨0, 0, 13, 0⟩)
 else (h, ⟨0, 0, 8, 0⟩)
def badK (k : DCase) : Bool := decide (¬ (k.dir = 1 ∨ k.dir = 2) ∨ k.value < 0 ∨ 4294967295 < k.value)
def casesE (h : DHall) (l : List DCase) : Int := if l.length = 0 ∨ 3 < l.length ∨ l.any badK = true then 1 else if l.any (fun k => !fndOk h k.handle) then 8 else 0
def rdyK (h : DHall) (k : DCase) : Bool := rdyC (chA h (fndP h k.handle)) k.handle h.waits k.dir
def gotH (h : DHall) (k : DCase) : DG := doG (chA h (fndP h k.handle)) k.handle h.waits k.dir k.value
def oneH (h : DHall) (which : Int) (k : DCase) : DHall × Rst :=
 (⟨h.ticket, h.chans.set (fndP h k.handle).toNat (gotH h k).c, (gotH h k).l, tellL h.done (gotH h k).told⟩, ⟨(gotH h k).r.seq, which, (gotH h k).r.code, (gotH h k).r.value⟩)
def chooseH (h : DHall) (t n : Int) (q : DReq) : DHall × Rst :=
 if casesE h q.cases ≠ 0 then (h, ⟨0, 0, casesE h q.cases, 0⟩)
 else if 0 ≤ ixF (rdyK h) q.cases then oneH h (ixF (rdyK h) q.cases) (q.cases.getD (ixF (rdyK h) q.cases).toNat default)
 else if q.dflt then (h, ⟨0, 0, 10, 0⟩)
 else if 4294967295 ≤ h.ticket then (h, ⟨0, 0, 7, 0⟩)
 else if putOk h.waits t then (⟨h.ticket + 1, h.chans, putW h.waits t ⟨false, h.ticket, n, q.cases⟩, h.done⟩, ⟨0, 0, 14, 0⟩)
 else (h, ⟨0, 0, 13, 0⟩)
def closeH (h : DHall) (x : Int) : DHall × Rst :=
 if fndOk h x then
  (⟨h.ticket, h.chans.set (fndP h x).toNat (shutG (chA h (fndP h x)) x h.waits).c, (shutG (chA h (fndP h x)) x h.waits).l, tellL h.done (shutG (chA h (fndP h x)) x h.waits).told⟩, ⟨0, 0, (shutG (chA h (fndP h x)) x h.waits).e, 0⟩)
 else (h, ⟨0, 0, 8, 0⟩)
def lookH (h : DHall) (q : DReq) : Rst :=
 if fndOk h q.arg then (if q.kind = 6 then ⟨0, 0, 0, (chA h (fndP h q.arg)).cap⟩ else ⟨0, 0, 0, ((chA h (fndP h q.arg)).buf.length : Int)⟩) else ⟨0, 0, 8, 0⟩
def mayCut (h : DHall) (me t n : Int) : Bool := cutOk h.waits t && decide (t ≠ me) && decide ((h.waits.getD t.toNat default).seq = n)
def cancelH (h : DHall) (me t n : Int) : DHall × Rst :=
 if mayCut h me t n then (⟨h.ticket, h.chans, cutW h.waits t, noteL h.done t ⟨n, 0, 11, 0⟩⟩, ⟨0, 0, 0, 0⟩) else (h, ⟨0, 0, 12, 0⟩)
def callH (c : DConf) (h : DHall) (t n : Int) (q : DReq) : DHall × Rst :=
 if q.kind = 1 then openH c h q.arg
 else if q.kind = 2 then freeH h q.arg
 else if q.kind = 3 then chooseH h t n q
 else if q.kind = 4 then closeH h q.arg
 else if q.kind = 5 ∨ q.kind = 6 then (h, lookH h q)
 else if q.kind = 7 then cancelH h t q.arg q.value
 else (h, ⟨0, 0, 1, 0⟩)
def applyH (c : DConf) (h : DHall) (t n : Int) (q : DReq) : DHall :=
 ⟨(callH c h t n q).1.ticket, (callH c h t n q).1.chans, (callH c h t n q).1.waits, noteL (callH c h t n q).1.done t ⟨n, (callH c h t n q).2.cas, (callH c h t n q).2.code, (callH c h t n q).2.value⟩⟩
theorem casesE_0 {h : DHall} {l : List DCase} (e : casesE h l = 0) : l.length ≤ 3 ∧ 0 < l.length ∧ (∀ x ∈ l, badK x = false) ∧ ∀ x ∈ l, fndOk h x.handle = true := by
 unfold casesE at e
 split at e
 ·omega
 ·rename_i h1
  split at e
  ·omega
  ·rename_i h2
   refine ⟨by omega, by omega, fun x hx => ?_, fun x hx => ?_⟩
   ·cases hb : badK x
    ·rfl
    ·exact absurd (.inr (.inr (List.any_eq_true.2 ⟨x, hx, hb⟩))) h1
   ·cases hb : fndOk h x.handle
    ·exact absurd (List.any_eq_true.2 ⟨x, hx, by simp [hb]⟩) h2
    ·rfl
structure okQ (h : DHall) (q : DReq) : Prop where
 a : sI q.arg
 v : sI q.value
 c : ∀ x ∈ q.cases, sCs x
 l : q.cases.length ≤ 5864062014805
 t : -9223372036854775808 ≤ h.ticket
 g : ∀ x ∈ h.chans, sI x.gen
theorem openH_len (c : DConf) (h : DHall) (x : Int) : (openH c h x).1.chans.length = h.chans.length ∧ (openH c h x).1.done = h.done := by
 unfold openH
 repeat' split
 all_goals first | exact ⟨rfl, rfl⟩ | (simp [cH]; done)
theorem freeH_len (h : DHall) (x : Int) : (freeH h x).1.chans.length = h.chans.length ∧ (freeH h x).1.done = h.done := by
 unfold freeH
 repeat' split
 all_goals first | exact ⟨rfl, rfl⟩ | (simp [cH]; done)
theorem chooseH_len (h : DHall) (t n : Int) (q : DReq) : (chooseH h t n q).1.chans.length = h.chans.length ∧ (chooseH h t n q).1.done.length = h.done.length := by
 unfold chooseH oneH
 repeat' split
 all_goals first | exact ⟨rfl, rfl⟩ | (simp [tellL_len]; done)
theorem closeH_len (h : DHall) (x : Int) : (closeH h x).1.chans.length = h.chans.length ∧ (closeH h x).1.done.length = h.done.length := by unfold closeH; split <;> simp [tellL_len]
theorem cancelH_len (h : DHall) (me t n : Int) : (cancelH h me t n).1.chans.length = h.chans.length ∧ (cancelH h me t n).1.done.length = h.done.length := by unfold cancelH; split <;> simp [noteL_len]
theorem callH_len (c : DConf) (h : DHall) (t n : Int) (q : DReq) : (callH c h t n q).1.chans.length = h.chans.length ∧ (callH c h t n q).1.done.length = h.done.length := by
 unfold callH
 have h1 := openH_len c h q.arg
 have h2 := freeH_len h q.arg
 have h3 := chooseH_len h t n q
 have h4 := closeH_len h q.arg
 have h5 := cancelH_len h t q.arg q.value
 repeat' split
 all_goals first | exact ⟨rfl, rfl⟩ | assumption | exact ⟨h1.1, by rw [h1.2]⟩ | exact ⟨h2.1, by rw [h2.2]⟩
theorem applyH_len (c : DConf) (h : DHall) (t n : Int) (q : DReq) : (applyH c h t n q).chans.length = h.chans.length ∧ (applyH c h t n q).done.length = h.done.length := by
 have := callH_len c h t n q
 unfold applyH
 exact ⟨this.1, by rw [noteL_len]; exact this.2⟩
theorem noteL_in {d : List Rst} {j : Nat} {r : Rst} (h : j < d.length) : noteL d j r = d.set j r := by unfold noteL; rw [if_pos ⟨by omega, by omega⟩, Int.toNat_natCast]
theorem noteL_out {d : List Rst} {t : Int} {r : Rst} (h : ¬ (0 ≤ t ∧ t < (d.length : Int))) : noteL d t r = d := by unfold noteL; rw [if_neg h]
end
section
abbrev u64 (x : Int) : AV := .t (.v (.int .u64 x))
abbrev aCf (c : DConf) : AV := .agg [i64 c.kind, i64 c.threads, i64 c.chans, i64 c.cap, i64 c.nodes, i64 c.retire, i64 c.patience, i64 c.tags, i64 c.seqs, i64 c.gens, .ln (c.start.map tI)]
abbrev aCh (x : DChan) : AV := .agg [i64 x.gen, i64 x.cap, bo x.used, bo x.closed, .ln (x.buf.map tI)]
abbrev aWt (w : DWait) : AV := .agg [bo w.on, i64 w.ticket, i64 w.seq, .ln (w.cases.map tCs)]
abbrev aHl (h : DHall) : AV := .agg [i64 h.ticket, .ln (h.chans.map tCh), .ln (h.waits.map tWt), .ln (h.done.map tR)]
abbrev aCl (x : DCells) : AV := .agg [i64 x.cap, .ln (x.list.map tI), .ln (x.done.map tR)]
abbrev aRq (q : DReq) : AV := .agg [i64 q.kind, i64 q.arg, i64 q.value, bo q.dflt, .ln (q.cases.map tCs)]
abbrev aR (r : Rst) : AV := .agg [i64 r.seq, i64 r.cas, i64 r.code, i64 r.value]
abbrev fCf (c : DConf) : AV := .agg [i64 c.kind, i64 c.threads, i64 c.chans, i64 c.cap, i64 c.nodes, i64 c.retire, i64 c.patience, i64 c.tags, i64 c.seqs, i64 c.gens, .t (.lst (c.start.map tI))]
end
section
attribute [local irreducible] AL AW RG Fin C Cd Cio thenQ blockQ retQ
set_option maxRecDepth 100000
structure okHl (h : DHall) : Prop where
 c : h.chans.length ≤ 2932031007402
 b : ∀ x ∈ h.chans, x.buf.length ≤ 17592186043904
 w : okW h.waits
 d : h.done.length ≤ 4398046511104
structure okHc (h : DHall) : Prop where
 c : h.chans.length ≤ 1152921504606846976
 b : ∀ x ∈ h.chans, x.buf.length ≤ 1152921504606846976
 w : okW h.waits
 d : h.done.length ≤ 1152921504606846976
theorem okHl.hc {h : DHall} (k : okHl h) : okHc h := ⟨by have := k.c; omega, fun x hx => by have := k.b x hx; omega, k.w, by have := k.d; omega⟩
end
section
theorem noteL_mem {d : List Rst} {t : Int} {r x : Rst} (h : x ∈ noteL d t r) : x ∈ d ∨ x = r := by
 unfold noteL at h; split at h
 ·exact List.mem_or_eq_of_mem_set h
 ·exact .inl h
structure Wq (l : List DWait) : Prop where
 s : ∀ w ∈ l, w.cases.length ≤ 3
 off : ∀ w ∈ l, w.on = false → w = w0
theorem Wq.set {l : List DWait} (h : Wq l) {t : Nat} {w : DWait} (h1 : w.cases.length ≤ 3) (h2 : w.on = false → w = w0) : Wq (l.set t w) :=
 ⟨fun x hx => by rcases List.mem_or_eq_of_mem_set hx with hx | rfl; exact h.s x hx; exact h1, fun x hx => by rcases List.mem_or_eq_of_mem_set hx with hx | rfl; exact h.off x hx; exact h2⟩
theorem Wq.cut {l : List DWait} (h : Wq l) (t : Int) : Wq (cutW l t) := by
 unfold cutW; split
 ·exact h.set (by decide) (fun _ => rfl)
 ·exact h
theorem Wq.put {l : List DWait} (h : Wq l) (t : Int) {w : DWait} (hw : w.cases.length ≤ 3) : Wq (putW l t w) := by
 unfold putW; split
 ·exact h.set hw (fun e => by cases e)
 ·exact h
theorem Wq.doG {c : DChan} {x : Int} {l : List DWait} {d v : Int} (h : Wq l) : Wq (doG c x l d v).l := by
 rcases doG_all c x l d v with ⟨_, h2, _, _⟩ | ⟨t, m, w, z, _, _, hw, _, h1, h2, h3, _⟩
 ·rw [h2]; exact h
 ·rw [h2]; exact h.set (by decide) (fun _ => rfl)
structure HBd (k : Nat) (h : DHall) : Prop where
 tk : 0 ≤ h.ticket ∧ h.ticket ≤ k
 bl : ∀ x ∈ h.chans, x.buf.length ≤ k
 gn : ∀ x ∈ h.chans, 0 ≤ x.gen ∧ x.gen ≤ 4095
 w : Wq h.waits
theorem HBd.up {k k' : Nat} {h : DHall} (b : HBd k h) (hk : k ≤ k') : HBd k' h := ⟨⟨b.tk.1, by have := b.tk.2; omega⟩, fun x hx => Nat.le_trans (b.bl x hx) hk, b.gn, b.w⟩
theorem getD_mem {α : Type} {l : List α} {n : Nat} {d : α} (h : n < l.length) : l.getD n d ∈ l := by rw [List.getD_eq_getElem?_getD, List.getElem?_eq_getElem h]; exact List.getElem_mem h
theorem fnd_mem {h : DHall} {x : Int} (e : fndOk h x = true) : chA h (fndP h x) ∈ h.chans := by
 obtain ⟨n, c, _, _, hc, _, _, e3, e4, _⟩ := fnd_yes e
 rw [e3, e4]; exact List.mem_of_getElem? hc
theorem ixF_mem {α : Type} {p : α → Bool} {l : List α} {d : α} (h : 0 ≤ ixF p l) : l.getD (ixF p l).toNat d ∈ l ∧ p (l.getD (ixF p l).toNat d) = true := by
 obtain ⟨a, ha, hp⟩ := ixF_get p l h
 rw [getD_of ha]; exact ⟨List.mem_of_getElem? ha, hp⟩
theorem shutG_len (c : DChan) (x : Int) (l : List DWait) : (shutG c x l).l.length = l.length := by
 unfold shutG; split
 ·dsimp only
  suffices ∀ (S : List Int) (l : List DWait), (S.foldl cutW l).length = l.length from this _ _
  intro S
  induction S with
  | nil => intro l; rfl
  | cons a S ih => intro l; rw [List.foldl_cons, ih, cutW_len]
 ·rfl
theorem doG_len (c : DChan) (x : Int) (l : List DWait) (d v : Int) : (doG c x l d v).l.length = l.length := by
 rcases doG_all c x l d v with ⟨_, h2, _, _⟩ | ⟨t, m, w, z, _, _, hw, _, h1, h2, h3, _⟩
 ·rw [h2]
 ·rw [h2, List.length_set]
theorem callH_wlen (c : DConf) (h : DHall) (t n : Int) (q : DReq) : (callH c h t n q).1.waits.length = h.waits.length := by
 unfold callH openH freeH chooseH oneH gotH closeH cancelH cH
 repeat' split
 all_goals first | rfl | (dsimp only; rw [doG_len]; done) | (dsimp only; rw [shutG_len]; done) | (dsimp only; rw [cutW_len]; done) | (dsimp only; rw [putW_len]; done)
theorem applyH_wlen (c : DConf) (h : DHall) (t n : Int) (q : DReq) : (applyH c h t n q).waits.length = h.waits.length := callH_wlen c h t n q
structure Ln (p th : Nat) (h : DHall) : Prop where
 c : h.chans.length = p
 w : h.waits.length = th
 d : h.done.length = th
theorem HBd.ok {k p th : Nat} {h : DHall} (b : HBd k h) (l : Ln p th h) (hk : k ≤ 1000) (hp : p ≤ 1000) (ht : th ≤ 1000) : okHl h :=
 ⟨by rw [l.c]; omega, fun x hx => by have := b.bl x hx; omega, ⟨by rw [l.w]; omega, fun w hw => by have := b.w.s w hw; omega⟩, by rw [l.d]; omega⟩
theorem HBd.okQ {k : Nat} {h : DHall} (b : HBd k h) {q : DReq} (hq : sRq q) (hl : q.cases.length ≤ 5864062014805) : okQ h q :=
 ⟨hq.2.1, hq.2.2.1, hq.2.2.2.2.2, hl, by have := b.tk.1; omega, fun x hx => by have := b.gn x hx; unfold sI; omega⟩
end
section
attribute [local irreducible] AL AW RG Fin C Cd Cio thenQ blockQ retQ
set_option maxRecDepth 100000
def stC (s : List Int) (p i : Nat) : List DChan := (List.range p).map fun j => if j < i ∧ j < s.length then ⟨1, s.getD j 0, true, false, []⟩ else ⟨0, 0, false, false, []⟩
theorem stC_len (s : List Int) (p i : Nat) : (stC s p i).length = p := by simp [stC]
theorem stC_get (s : List Int) {p i j : Nat} (h : j < p) : (stC s p i)[j]? = some (if j < i ∧ j < s.length then ⟨1, s.getD j 0, true, false, []⟩ else ⟨0, 0, false, false, []⟩) := by unfold stC; rw [List.getElem?_map, List.getElem?_range h]; rfl
theorem stC_zero (s : List Int) (p : Nat) : stC s p 0 = List.replicate p ⟨0, 0, false, false, []⟩ := by
 refine List.ext_getElem? fun j => ?_
 by_cases h : j < p
 ·rw [stC_get s h, List.getElem?_replicate, if_pos h, if_neg (by omega)]
 ·rw [List.getElem?_eq_none (by rw [stC_len]; omega), List.getElem?_eq_none (by simp; omega)]
theorem stC_next {s : List Int} {p i : Nat} {x : Int} (hi : i < p) (hx : s[i]? = some x) : stC s p (i + 1) = (stC s p i).set i ⟨1, x, true, false, []⟩ := by
 have hl := get_lt hx
 refine List.ext_getElem? fun j => ?_
 rw [List.getElem?_set]
 by_cases h : j < p
 ·rw [stC_get s h, stC_get s h, stC_len]
  by_cases e : i = j
  ·subst e
   rw [if_pos rfl, if_pos hi, if_pos ⟨by omega, hl⟩, List.getD_eq_getElem?_getD, hx]; rfl
  ·rw [if_neg e]
   by_cases q : j < i ∧ j < s.length
   ·rw [if_pos q, if_pos ⟨by omega, q.2⟩]
   ·rw [if_neg q, if_neg (by omega)]
 ·rw [List.getElem?_eq_none (by rw [stC_len]; omega), if_neg (by omega), List.getElem?_eq_none (by rw [stC_len]; omega)]
theorem stC_end {s : List Int} {p i : Nat} (h : ¬ (i < p ∧ i < s.length)) (hp : i ≤ p) : stC s p i = stC s p p := by
 refine List.ext_getElem? fun j => ?_
 by_cases hj : j < p
 ·rw [stC_get s hj, stC_get s hj]
  by_cases q : j < s.length
  ·by_cases e : j < i
   ·rw [if_pos ⟨e, q⟩, if_pos ⟨hj, q⟩]
   ·omega
  ·rw [if_neg (by omega), if_neg (by omega)]
 ·rw [List.getElem?_eq_none (by rw [stC_len]; omega), List.getElem?_eq_none (by rw [stC_len]; omega)]
def plN (c : DConf) : Nat := (max 0 (min c.chans 8)).toNat
def thN (c : DConf) : Nat := (max 0 (min c.threads 64)).toNat
theorem plN_e (c : DConf) : ((plN c : Nat) : Int) = max 0 (min c.chans 8) ∧ plN c ≤ 8 := by unfold plN; omega
theorem thN_e (c : DConf) : ((thN c : Nat) : Int) = max 0 (min c.threads 64) ∧ thN c ≤ 64 := by unfold thN; omega
attribute [local irreducible] stC plN thN
theorem rstart_c (c : DConf) (hs0 : c.start.length ≤ 1152921504606846976) : Cd Tryz.prog 41 [aCf c] (.agg [i64 0, .sl 0 0 (plN c), .sl 1 0 (thN c), .sl 2 0 (thN c)]) [.row 0 87 5 ((stC c.start (plN c) (plN c)).map tCh), .row 0 90 4 ((List.replicate (thN c) (⟨false, 0, 0, []⟩ : DWait)).map tWt), .row 0 42 4 ((List.replicate (thN c) (⟨0, 0, 0, 0⟩ : Rst)).map tR)] := by
 have h1 : (c.start.map tI).length = c.start.length := List.length_map _
 obtain ⟨hp, hp8⟩ := plN_e c
 obtain ⟨ht, ht64⟩ := thN_e c
 refine Cd.enter' Tryz.func41 rfl Tryz.ntmps41 rfl ?_
 repeat' (first | refine uA ?_ | ((with_reducible refine kRG ?_); (first | refine R_make (N := 2) rfl rfl 45 _ _ rfl ud45 inf87 rfl (zs := [(.v (.int .i64 0)), (.v (.int .i64 0)), (.v (.bool false)), (.v (.bool false)), .lst []]) rfl rfl rfl (plN c) (by omega) (by omega) qB qB (by exact rep_map (f := tCh) (x := ⟨_, _, _, _, []⟩)) rfl qN ?_ | refine R_make (N := 3) rfl rfl 46 _ _ rfl ud46 inf90 rfl (zs := [(.v (.bool false)), (.v (.int .i64 0)), (.v (.int .i64 0)), .lst []]) rfl rfl rfl (thN c) (by omega) (by omega) qB qB (by exact rep_map (f := tWt) (x := ⟨_, _, _, []⟩)) rfl qN ?_ | refine R_make (N := 4) rfl rfl 47 _ _ rfl ud47 inf42 rfl (zs := [(.v (.int .i64 0)), (.v (.int .i64 0)), (.v (.int .i64 0)), (.v (.int .i64 0))]) rfl rfl rfl (thN c) (by omega) (by omega) qB qB (by exact rep_map (f := tR) (x := ⟨_, _, _, _⟩)) rfl qN ?_ | refine uR ?_)) | refine uC ?_ | refine AW.drawU (id := 1) mixed 0 qR ?_ | refine AW.drawU (id := 2) mixed 4 qR ?_ | fail)
 all_goals first | (exfalso; omega) | skip
 refine AW.loopP (fun (i : Nat) => i ≤ plN c) (fun (i : Nat) => (pu (pu (pu (pu (pu (fun _ => .any) 1 (.ptr 0 0)) 2 (.ptr 1 0)) 3 (i64 (plN c))) 5 (.ptr 5 0)) 6 (i64 i))) (fun (i : Nat) => [.box 24 [i64 c.kind, i64 c.threads, i64 c.chans, i64 c.cap, i64 c.nodes, i64 c.retire, i64 c.patience, i64 c.tags, i64 c.seqs, i64 c.gens, .ln (c.start.map tI)], .box 49 [i64 0, .nl, .nl, .nl], .row 0 87 5 ((stC c.start (plN c) i).map tCh), .row 0 90 4 ((List.replicate (thN c) (⟨false, 0, 0, []⟩ : DWait)).map tWt), .row 0 42 4 ((List.replicate (thN c) (⟨0, 0, 0, 0⟩ : Rst)).map tR), .box 49 [i64 0, .sl 2 0 (plN c), .sl 3 0 (thN c), .sl 4 0 (thN c)]]) (fun (i : Nat) => plN c - i) (0) ?_ ?_ ?_
 ·exact Nat.zero_le _
 ·rw [stC_zero, hp]
  exact Wk.cq 6
 ·intro i hi
  have hL := stC_len c.start (plN c) i
  by_cases hc1 : i < plN c ∧ i < c.start.length
  ·obtain ⟨x, hx⟩ : ∃ x, c.start[i]? = some x := ⟨_, List.getElem?_eq_getElem hc1.2⟩
   have hg : (stC c.start (plN c) i)[i]? = some ⟨0, 0, false, false, []⟩ := by rw [stC_get _ hc1.1, if_neg (by omega)]
   have hg1 : ((stC c.start (plN c) i).set i ⟨1, 0, false, false, []⟩)[i]? = some ⟨1, 0, false, false, []⟩ := by rw [List.getElem?_set, if_pos rfl, if_pos (by omega)]
   have hg2 : (((stC c.start (plN c) i).set i ⟨1, 0, false, false, []⟩).set i ⟨1, x, false, false, []⟩)[i]? = some ⟨1, x, false, false, []⟩ := by rw [List.getElem?_set, if_pos rfl, if_pos (by rw [List.length_set]; omega)]
   have hs : stC c.start (plN c) (i + 1) = (((stC c.start (plN c) i).set i ⟨1, 0, false, false, []⟩).set i ⟨1, x, false, false, []⟩).set i ⟨1, x, true, false, []⟩ := by rw [stC_next hc1.1 hx, List.set_set, List.set_set]
   generalize stC c.start (plN c) i = L0 at *
   clear hp ht hs0
   repeat' (first | ((with_reducible refine kAL ?_); (first | refine A_store_rp rfl rfl 3 _ _ rfl inf3 (by decide) rfl rfl (by exact map_get (by assumption)) rfl rfl rfl (Nat.le_of_ble_eq_true rfl) (by exact map_set (f := tCh) (x := ⟨1, 0, false, false, []⟩)) qN ?_ | refine A_store_rp rfl rfl 4 _ _ rfl inf4 (by decide) rfl rfl (by exact map_get (by assumption)) rfl rfl rfl (Nat.le_of_ble_eq_true rfl) (by exact map_set (f := tCh) (x := ⟨1, x, true, false, []⟩)) qN ?_ | refine uA ?_)) | ((with_reducible refine kRG ?_); (first | refine R_store_rp rfl rfl 3 _ _ rfl inf3 (by decide) rfl rfl (by exact map_get (by assumption)) rfl rfl rfl (Nat.le_of_ble_eq_true rfl) (by exact map_set (f := tCh) (x := ⟨1, x, false, false, []⟩)) qN ?_ | refine uR ?_)) | refine uC ?_ | refine AW.drawU (id := 7) mixed 0 qR ?_ | fail)
   all_goals first | (exfalso; omega) | skip
   refine ⟨i + 1, by omega, by omega, ?_⟩
   rw [hs]
   exact Wk.cq 6
  ·rw [← stC_end hc1 hi]
   repeat' (first | ((with_reducible refine kAL ?_); (first | refine uA ?_ | refine uS 25 (fun hb => ?_) (fun hb => ?_))) | refine uC ?_ | fail)
   all_goals first | (exfalso; omega) | (exact Fin.q Tryz.results41 (.cons (.agg rfl rfl ud49 rfl inf49 (us := [_, _, _, _]) rfl rfl) .nil) [2, 3, 4])
end
section
def startH (c : DConf) : DHall := ⟨0, stC c.start (plN c) (plN c), List.replicate (thN c) ⟨false, 0, 0, []⟩, List.replicate (thN c) ⟨0, 0, 0, 0⟩⟩
theorem stC_mem {s : List Int} {p i : Nat} {x : DChan} (h : x ∈ stC s p i) : x.buf = [] ∧ (x.gen = 0 ∨ x.gen = 1) := by
 unfold stC at h
 obtain ⟨j, -, rfl⟩ := List.mem_map.1 h
 split <;> simp
theorem startH_bd (c : DConf) : HBd 0 (startH c) := by
 refine ⟨⟨Int.le_refl _, Int.le_refl _⟩, fun x hx => ?_, fun x hx => ?_, ⟨fun w hw => ?_, fun w hw _ => ?_⟩⟩
 ·rw [(stC_mem hx).1]; exact Nat.zero_le _
 ·rcases (stC_mem hx).2 with e | e <;> omega
 ·rw [List.eq_of_mem_replicate hw]; exact Nat.zero_le _
 ·rw [List.eq_of_mem_replicate hw]; rfl
theorem startH_ln (c : DConf) : Ln (plN c) (thN c) (startH c) := ⟨stC_len _ _ _, List.length_replicate, List.length_replicate⟩
theorem startH_ok (c : DConf) : okHl (startH c) := (startH_bd c).ok (startH_ln c) (by decide) (by have := (plN_e c).2; omega) (by have := (thN_e c).2; omega)
theorem noteL_get {d : List Rst} {j : Nat} {r : Rst} (h : j < d.length) : (noteL d j r)[j]? = some r := by rw [noteL_in h, List.getElem?_set_self h]
end
section
attribute [local irreducible] AL AW RG Fin C Cd Cio thenQ blockQ retQ
set_option maxRecDepth 100000
theorem ixF_any {α : Type} (p : α → Bool) (l : List α) : decide (0 ≤ ixF p l) = l.any p := by
 cases h : l.any p
 ·refine decide_eq_false fun h2 => ?_
  obtain ⟨a, ha, hp⟩ := ixF_get p l h2
  rw [List.any_eq_false] at h
  exact h a (List.mem_of_getElem? ha) hp
 ·obtain ⟨a, ha, hp⟩ := List.any_eq_true.1 h
  obtain ⟨q, hq⟩ := List.getElem?_of_mem ha
  exact decide_eq_true (ixF_yes p hq hp)
theorem idxFI_c (f : FuncId) (fi cap : List AV) (p : Int → Bool) (l : List Int) (hg : ∀ c ∈ l, CV Tryz.prog (.fn (.func f) fi cap) [i64 c] (.t (.v (.bool (p c)))) []) (hup : upB (keepG 0) (.fn (.func f) fi cap) = .fn (.func f) fi cap)
  (hl : l.length ≤ 1152921504606846976) : Cd Tryz.prog 151 [.ln (l.map tI), .fn (.func f) fi cap] (i64 (ixF p l)) [] := by
 have h1 : (l.map tI).length = l.length := List.length_map _
 refine Cd.enter' Tryz.func151 rfl Tryz.ntmps151 rfl ?_
 repeat' (first | refine uA ?_ | refine uC ?_ | fail)
 refine AW.loopP (fun (q : Nat) => q ≤ l.length ∧ ∀ j, j < q → ∀ b, l[j]? = some b → p b = false) (fun (q : Nat) => (pu (pu (pu (pu (fun _ => .any) 0 (.ln (l.map tI))) 1 (.fn (.func f) fi cap)) 7 (i64 (l.map tI).length)) 8 (i64 q))) (fun (q : Nat) => []) (fun (q : Nat) => l.length - q) (0) ?_ ?_ ?_
 ·exact ⟨Nat.zero_le _, fun j hj => by omega⟩
 ·exact Wk.cq 0
 ·rintro q ⟨h2, h3⟩
  by_cases hq : q < l.length
  ·obtain ⟨a, ha⟩ : ∃ a, l[q]? = some a := ⟨_, List.getElem?_eq_getElem hq⟩
   have c1 := hg a (List.mem_of_getElem? ha)
   cases hp : p a
   ·rw [hp] at c1
    repeat' (first | ((with_reducible refine kAL ?_); (first | refine uV (c1) ?_ | refine uA ?_)) | refine uC ?_ | fail)
    all_goals first | (exfalso; omega) | skip
    refine ⟨q + 1, ⟨by omega, fun j hj b hb => ?_⟩, by omega, ?_⟩
    ·by_cases e : j = q
     ·subst e; rw [ha] at hb; cases hb; exact hp
     ·exact h3 j (by omega) b hb
    ·exact Wk.cq 0
   ·rw [hp] at c1
    rw [ixF_at p l q a h3 ha hp]
    repeat' (first | ((with_reducible refine kAL ?_); (first | refine uV (c1) ?_ | refine uA ?_)) | refine uC ?_ | fail)
    all_goals first | (exfalso; omega) | (exact Fin.q Tryz.results151 (.cons (.tmp rfl) .nil) [])
  ·rw [ixF_none p l fun j b hb => h3 j (by have := get_lt hb; omega) b hb]
   repeat' (first | refine uA ?_ | refine uC ?_ | fail)
   all_goals first | (exfalso; omega) | (exact Fin.q Tryz.results151 (.cons (.tmp rfl) .nil) [])
theorem conFI_c (f : FuncId) (fi cap : List AV) (p : Int → Bool) (l : List Int) (hg : ∀ c ∈ l, CV Tryz.prog (.fn (.func f) fi cap) [i64 c] (.t (.v (.bool (p c)))) []) (hup : upB (keepG 0) (.fn (.func f) fi cap) = .fn (.func f) fi cap) (hps : ∀ heap sel, Pass heap sel (.fn (.func f) fi cap) (.fn (.func f) fi cap))
  (hl : l.length ≤ 1152921504606846976) : Cd Tryz.prog 124 [.ln (l.map tI), .fn (.func f) fi cap] (bo (l.any p)) [] := by
 have c1 := idxFI_c f fi cap p l hg hup hl
 rw [← ixF_any]
 refine Cd.enter' Tryz.func124 rfl Tryz.ntmps124 rfl ?_
 by_cases h : 0 ≤ ixF p l
 ·rw [decide_eq_true h]
  repeat' (first | ((with_reducible refine kAL ?_); (first | refine uK (c1) ?_ | refine uA ?_)) | refine uC ?_ | fail)
  all_goals first | (exfalso; omega) | (exact Fin.q Tryz.results124 (.cons (.tmp rfl) .nil) [])
 ·rw [decide_eq_false h]
  repeat' (first | ((with_reducible refine kAL ?_); (first | refine uK (c1) ?_ | refine uA ?_)) | refine uC ?_ | fail)
  all_goals first | (exfalso; omega) | (exact Fin.q Tryz.results124 (.cons (.tmp rfl) .nil) [])
theorem idxFR_c (f : FuncId) (fi cap : List AV) (p : Rst → Bool) (l : List Rst) (hg : ∀ c ∈ l, CV Tryz.prog (.fn (.func f) fi cap) [.agg ((tR c).map .t)] (.t (.v (.bool (p c)))) []) (hup : upB (keepG 0) (.fn (.func f) fi cap) = .fn (.func f) fi cap)
  (hl : l.length ≤ 1152921504606846976) : Cd Tryz.prog 154 [.ln (l.map tR), .fn (.func f) fi cap] (i64 (ixF p l)) [] := by
 have h1 : (l.map tR).length = l.length := List.length_map _
 refine Cd.enter' Tryz.func154 rfl Tryz.ntmps154 rfl ?_
 repeat' (first | refine uA ?_ | refine uC ?_ | fail)
 refine AW.loopP (fun (q : Nat) => q ≤ l.length ∧ ∀ j, j < q → ∀ b, l[j]? = some b → p b = false) (fun (q : Nat) => (pu (pu (pu (pu (fun _ => .any) 0 (.ln (l.map tR))) 1 (.fn (.func f) fi cap)) 7 (i64 (l.map tR).length)) 8 (i64 q))) (fun (q : Nat) => []) (fun (q : Nat) => l.length - q) (0) ?_ ?_ ?_
 ·exact ⟨Nat.zero_le _, fun j hj => by omega⟩
 ·exact Wk.cq 0
 ·rintro q ⟨h2, h3⟩
  by_cases hq : q < l.length
  ·obtain ⟨a, ha⟩ : ∃ a, l[q]? = some a := ⟨_, List.getElem?_eq_getElem hq⟩
   have c1 := hg a (List.mem_of_getElem? ha)
   cases hp : p a
   ·rw [hp] at c1
    repeat' (first | ((with_reducible refine kAL ?_); (first | refine uV (c1) ?_ | refine uA ?_)) | refine uC ?_ | fail)
    all_goals first | (exfalso; omega) | skip
    refine ⟨q + 1, ⟨by omega, fun j hj b hb => ?_⟩, by omega, ?_⟩
    ·by_cases e : j = q
     ·subst e; rw [ha] at hb; cases hb; exact hp
     ·exact h3 j (by omega) b hb
    ·exact Wk.cq 0
   ·rw [hp] at c1
    rw [ixF_at p l q a h3 ha hp]
    repeat' (first | ((with_reducible refine kAL ?_); (first | refine uV (c1) ?_ | refine uA ?_)) | refine uC ?_ | fail)
    all_goals first | (exfalso; omega) | (exact Fin.q Tryz.results154 (.cons (.tmp rfl) .nil) [])
  ·rw [ixF_none p l fun j b hb => h3 j (by have := get_lt hb; omega) b hb]
   repeat' (first | refine uA ?_ | refine uC ?_ | fail)
   all_goals first | (exfalso; omega) | (exact Fin.q Tryz.results154 (.cons (.tmp rfl) .nil) [])
theorem conFR_c (f : FuncId) (fi cap : List AV) (p : Rst → Bool) (l : List Rst) (hg : ∀ c ∈ l, CV Tryz.prog (.fn (.func f) fi cap) [.agg ((tR c).map .t)] (.t (.v (.bool (p c)))) []) (hup : upB (keepG 0) (.fn (.func f) fi cap) = .fn (.func f) fi cap) (hps : ∀ heap sel, Pass heap sel (.fn (.func f) fi cap) (.fn (.func f) fi cap))
  (hl : l.length ≤ 1152921504606846976) : Cd Tryz.prog 129 [.ln (l.map tR), .fn (.func f) fi cap] (bo (l.any p)) [] := by
 have c1 := idxFR_c f fi cap p l hg hup hl
 rw [← ixF_any]
 refine Cd.enter' Tryz.func129 rfl Tryz.ntmps129 rfl ?_
 by_cases h : 0 ≤ ixF p l
 ·rw [decide_eq_true h]
  repeat' (first | ((with_reducible refine kAL ?_); (first | refine uK (c1) ?_ | refine uA ?_)) | refine uC ?_ | fail)
  all_goals first | (exfalso; omega) | (exact Fin.q Tryz.results129 (.cons (.tmp rfl) .nil) [])
 ·rw [decide_eq_false h]
  repeat' (first | ((with_reducible refine kAL ?_); (first | refine uK (c1) ?_ | refine uA ?_)) | refine uC ?_ | fail)
  all_goals first | (exfalso; omega) | (exact Fin.q Tryz.results129 (.cons (.tmp rfl) .nil) [])
theorem idxFC_c (f : FuncId) (fi cap : List AV) (p : DChan → Bool) (l : List DChan) (hg : ∀ c ∈ l, CV Tryz.prog (.fn (.func f) fi cap) [.agg ((tCh c).map .t)] (.t (.v (.bool (p c)))) []) (hup : upB (keepG 0) (.fn (.func f) fi cap) = .fn (.func f) fi cap)
  (hl : l.length ≤ 1152921504606846976) : Cd Tryz.prog 132 [.ln (l.map tCh), .fn (.func f) fi cap] (i64 (ixF p l)) [] := by
 have h1 : (l.map tCh).length = l.length := List.length_map _
 refine Cd.enter' Tryz.func132 rfl Tryz.ntmps132 rfl ?_
 repeat' (first | refine uA ?_ | refine uC ?_ | fail)
 refine AW.loopP (fun (q : Nat) => q ≤ l.length ∧ ∀ j, j < q → ∀ b, l[j]? = some b → p b = false) (fun (q : Nat) => (pu (pu (pu (pu (fun _ => .any) 0 (.ln (l.map tCh))) 1 (.fn (.func f) fi cap)) 7 (i64 (l.map tCh).length)) 8 (i64 q))) (fun (q : Nat) => []) (fun (q : Nat) => l.length - q) (0) ?_ ?_ ?_
 ·exact ⟨Nat.zero_le _, fun j hj => by omega⟩
 ·exact Wk.cq 0
 ·rintro q ⟨h2, h3⟩
  by_cases hq : q < l.length
  ·obtain ⟨a, ha⟩ : ∃ a, l[q]? = some a := ⟨_, List.getElem?_eq_getElem hq⟩
   have c1 := hg a (List.mem_of_getElem? ha)
   cases hp : p a
   ·rw [hp] at c1
    repeat' (first | ((with_reducible refine kAL ?_); (first | refine uV (c1) ?_ | refine uA ?_)) | refine uC ?_ | fail)
    all_goals first | (exfalso; omega) | skip
    refine ⟨q + 1, ⟨by omega, fun j hj b hb => ?_⟩, by omega, ?_⟩
    ·by_cases e : j = q
     ·subst e; rw [ha] at hb; cases hb; exact hp
     ·exact h3 j (by omega) b hb
    ·exact Wk.cq 0
   ·rw [hp] at c1
    rw [ixF_at p l q a h3 ha hp]
    repeat' (first | ((with_reducible refine kAL ?_); (first | refine uV (c1) ?_ | refine uA ?_)) | refine uC ?_ | fail)
    all_goals first | (exfalso; omega) | (exact Fin.q Tryz.results132 (.cons (.tmp rfl) .nil) [])
  ·rw [ixF_none p l fun j b hb => h3 j (by have := get_lt hb; omega) b hb]
   repeat' (first | refine uA ?_ | refine uC ?_ | fail)
   all_goals first | (exfalso; omega) | (exact Fin.q Tryz.results132 (.cons (.tmp rfl) .nil) [])
theorem conFC_c (f : FuncId) (fi cap : List AV) (p : DChan → Bool) (l : List DChan) (hg : ∀ c ∈ l, CV Tryz.prog (.fn (.func f) fi cap) [.agg ((tCh c).map .t)] (.t (.v (.bool (p c)))) []) (hup : upB (keepG 0) (.fn (.func f) fi cap) = .fn (.func f) fi cap) (hps : ∀ heap sel, Pass heap sel (.fn (.func f) fi cap) (.fn (.func f) fi cap))
  (hl : l.length ≤ 1152921504606846976) : Cd Tryz.prog 94 [.ln (l.map tCh), .fn (.func f) fi cap] (bo (l.any p)) [] := by
 have c1 := idxFC_c f fi cap p l hg hup hl
 rw [← ixF_any]
 refine Cd.enter' Tryz.func94 rfl Tryz.ntmps94 rfl ?_
 by_cases h : 0 ≤ ixF p l
 ·rw [decide_eq_true h]
  repeat' (first | ((with_reducible refine kAL ?_); (first | refine uK (c1) ?_ | refine uA ?_)) | refine uC ?_ | fail)
  all_goals first | (exfalso; omega) | (exact Fin.q Tryz.results94 (.cons (.tmp rfl) .nil) [])
 ·rw [decide_eq_false h]
  repeat' (first | ((with_reducible refine kAL ?_); (first | refine uK (c1) ?_ | refine uA ?_)) | refine uC ?_ | fail)
  all_goals first | (exfalso; omega) | (exact Fin.q Tryz.results94 (.cons (.tmp rfl) .nil) [])
theorem idxFW_c (f : FuncId) (fi cap : List AV) (p : DWait → Bool) (l : List DWait) (hg : ∀ c ∈ l, CV Tryz.prog (.fn (.func f) fi cap) [.agg ((tWt c).map .t)] (.t (.v (.bool (p c)))) []) (hup : upB (keepG 0) (.fn (.func f) fi cap) = .fn (.func f) fi cap)
  (hl : l.length ≤ 1152921504606846976) : Cd Tryz.prog 133 [.ln (l.map tWt), .fn (.func f) fi cap] (i64 (ixF p l)) [] := by
 have h1 : (l.map tWt).length = l.length := List.length_map _
 refine Cd.enter' Tryz.func133 rfl Tryz.ntmps133 rfl ?_
 repeat' (first | refine uA ?_ | refine uC ?_ | fail)
 refine AW.loopP (fun (q : Nat) => q ≤ l.length ∧ ∀ j, j < q → ∀ b, l[j]? = some b → p b = false) (fun (q : Nat) => (pu (pu (pu (pu (fun _ => .any) 0 (.ln (l.map tWt))) 1 (.fn (.func f) fi cap)) 7 (i64 (l.map tWt).length)) 8 (i64 q))) (fun (q : Nat) => []) (fun (q : Nat) => l.length - q) (0) ?_ ?_ ?_
 ·exact ⟨Nat.zero_le _, fun j hj => by omega⟩
 ·exact Wk.cq 0
 ·rintro q ⟨h2, h3⟩
  by_cases hq : q < l.length
  ·obtain ⟨a, ha⟩ : ∃ a, l[q]? = some a := ⟨_, List.getElem?_eq_getElem hq⟩
   have c1 := hg a (List.mem_of_getElem? ha)
   cases hp : p a
   ·rw [hp] at c1
    repeat' (first | ((with_reducible refine kAL ?_); (first | refine uV (c1) ?_ | refine uA ?_)) | refine uC ?_ | fail)
    all_goals first | (exfalso; omega) | skip
    refine ⟨q + 1, ⟨by omega, fun j hj b hb => ?_⟩, by omega, ?_⟩
    ·by_cases e : j = q
     ·subst e; rw [ha] at hb; cases hb; exact hp
     ·exact h3 j (by omega) b hb
    ·exact Wk.cq 0
   ·rw [hp] at c1
    rw [ixF_at p l q a h3 ha hp]
    repeat' (first | ((with_reducible refine kAL ?_); (first | refine uV (c1) ?_ | refine uA ?_)) | refine uC ?_ | fail)
    all_goals first | (exfalso; omega) | (exact Fin.q Tryz.results133 (.cons (.tmp rfl) .nil) [])
  ·rw [ixF_none p l fun j b hb => h3 j (by have := get_lt hb; omega) b hb]
   repeat' (first | refine uA ?_ | refine uC ?_ | fail)
   all_goals first | (exfalso; omega) | (exact Fin.q Tryz.results133 (.cons (.tmp rfl) .nil) [])
theorem conFW_c (f : FuncId) (fi cap : List AV) (p : DWait → Bool) (l : List DWait) (hg : ∀ c ∈ l, CV Tryz.prog (.fn (.func f) fi cap) [.agg ((tWt c).map .t)] (.t (.v (.bool (p c)))) []) (hup : upB (keepG 0) (.fn (.func f) fi cap) = .fn (.func f) fi cap) (hps : ∀ heap sel, Pass heap sel (.fn (.func f) fi cap) (.fn (.func f) fi cap))
  (hl : l.length ≤ 1152921504606846976) : Cd Tryz.prog 97 [.ln (l.map tWt), .fn (.func f) fi cap] (bo (l.any p)) [] := by
 have c1 := idxFW_c f fi cap p l hg hup hl
 rw [← ixF_any]
 refine Cd.enter' Tryz.func97 rfl Tryz.ntmps97 rfl ?_
 by_cases h : 0 ≤ ixF p l
 ·rw [decide_eq_true h]
  repeat' (first | ((with_reducible refine kAL ?_); (first | refine uK (c1) ?_ | refine uA ?_)) | refine uC ?_ | fail)
  all_goals first | (exfalso; omega) | (exact Fin.q Tryz.results97 (.cons (.tmp rfl) .nil) [])
 ·rw [decide_eq_false h]
  repeat' (first | ((with_reducible refine kAL ?_); (first | refine uK (c1) ?_ | refine uA ?_)) | refine uC ?_ | fail)
  all_goals first | (exfalso; omega) | (exact Fin.q Tryz.results97 (.cons (.tmp rfl) .nil) [])
end
end Go.Proofs.YtbpgopomninedaaGreat
