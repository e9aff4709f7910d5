/- Joined: XTUI, XTWaitP, XTOkW, XTClones, XTPlain, XTCases, XTWaits. -/
import Derived.Test.YtbpgopomninedaaGreatKAd
import Derived.Test.YtbpgopomninedaaGreatKAf
import Derived.Test.YtbpgopomninedaaGreatKAe
import Derived.Test.YtbpgopomninedaaGreatKAc
namespace Go.Proofs.YtbpgopomninedaaGreat
open Go.RowKit
set_option linter.unusedVariables false
set_option linter.unusedSimpArgs false
set_option linter.unnecessarySimpa false
set_option maxRecDepth 100000
set_option maxHeartbeats 64000000
section
@[reducible] def iu3 := Ud.mk ud3
@[reducible] def iu4 := Ud.mk ud4
@[reducible] def iu22 := Ud.mk ud22
@[reducible] def iu24 := Ud.mk ud24
@[reducible] def iu25 := Ud.mk ud25
@[reducible] def iu26 := Ud.mk ud26
@[reducible] def iu28 := Ud.mk ud28
@[reducible] def iu31 := Ud.mk ud31
@[reducible] def iu36 := Ud.mk ud36
@[reducible] def iu38 := Ud.mk ud38
@[reducible] def iu40 := Ud.mk ud40
@[reducible] def iu42 := Ud.mk ud42
@[reducible] def iu45 := Ud.mk ud45
@[reducible] def iu46 := Ud.mk ud46
@[reducible] def iu47 := Ud.mk ud47
@[reducible] def iu49 := Ud.mk ud49
@[reducible] def iu53 := Ud.mk ud53
@[reducible] def iu72 := Ud.mk ud72
@[reducible] def iu77 := Ud.mk ud77
@[reducible] def iu80 := Ud.mk ud80
@[reducible] def iu82 := Ud.mk ud82
@[reducible] def iu84 := Ud.mk ud84
@[reducible] def iu87 := Ud.mk ud87
@[reducible] def iu90 := Ud.mk ud90
@[reducible] def iu97 := Ud.mk ud97
@[reducible] def iu100 := Ud.mk ud100
@[reducible] def iu103 := Ud.mk ud103
@[reducible] def iu108 := Ud.mk ud108
@[reducible] def iu128 := Ud.mk ud128
@[reducible] def iu130 := Ud.mk ud130
@[reducible] def iu136 := Ud.mk ud136
@[reducible] def iu137 := Ud.mk ud137
@[reducible] def iu141 := Ud.mk ud141
@[reducible] def iu143 := Ud.mk ud143
@[reducible] def iu152 := Ud.mk ud152
@[reducible] def iu165 := Ud.mk ud165
attribute [instance] iu3 iu4 iu22 iu24 iu25 iu26 iu28 iu31 iu36 iu38 iu40 iu42 iu45 iu46 iu47 iu49 iu53 iu72 iu77 iu80 iu82 iu84 iu87 iu90 iu97 iu100 iu103 iu108 iu128 iu130 iu136 iu137 iu141 iu143 iu152 iu165
@[reducible] def ii3 := In.mk inf3
@[reducible] def ii4 := In.mk inf4
@[reducible] def ii22 := In.mk inf22
@[reducible] def ii24 := In.mk inf24
@[reducible] def ii25 := In.mk inf25
@[reducible] def ii26 := In.mk inf26
@[reducible] def ii28 := In.mk inf28
@[reducible] def ii31 := In.mk inf31
@[reducible] def ii36 := In.mk inf36
@[reducible] def ii38 := In.mk inf38
@[reducible] def ii40 := In.mk inf40
@[reducible] def ii42 := In.mk inf42
@[reducible] def ii45 := In.mk inf45
@[reducible] def ii46 := In.mk inf46
@[reducible] def ii47 := In.mk inf47
@[reducible] def ii49 := In.mk inf49
@[reducible] def ii53 := In.mk inf53
@[reducible] def ii72 := In.mk inf72
@[reducible] def ii77 := In.mk inf77
@[reducible] def ii80 := In.mk inf80
@[reducible] def ii82 := In.mk inf82
@[reducible] def ii84 := In.mk inf84
@[reducible] def ii87 := In.mk inf87
@[reducible] def ii90 := In.mk inf90
@[reducible] def ii100 := In.mk inf100
@[reducible] def ii103 := In.mk inf103
@[reducible] def ii108 := In.mk inf108
@[reducible] def ii128 := In.mk inf128
@[reducible] def ii130 := In.mk inf130
@[reducible] def ii136 := In.mk inf136
@[reducible] def ii137 := In.mk inf137
@[reducible] def ii141 := In.mk inf141
@[reducible] def ii143 := In.mk inf143
@[reducible] def ii152 := In.mk inf152
@[reducible] def ii165 := In.mk inf165
attribute [instance] ii3 ii4 ii22 ii24 ii25 ii26 ii28 ii31 ii36 ii38 ii40 ii42 ii45 ii46 ii47 ii49 ii53 ii72 ii77 ii80 ii82 ii84 ii87 ii90 ii100 ii103 ii108 ii128 ii130 ii136 ii137 ii141 ii143 ii152 ii165
instance : Zr Tryz.prog 24 [.t (.v (.int .i64 0)), .t (.v (.int .i64 0)), .t (.v (.int .i64 0)), .t (.v (.int .i64 0)), .t (.v (.int .i64 0)), .t (.v (.int .i64 0)), .t (.v (.int .i64 0)), .t (.v (.int .i64 0)), .t (.v (.int .i64 0)), .t (.v (.int .i64 0)), .nl] := ⟨_, _, _, inf24, rfl, rfl⟩
instance : Zr Tryz.prog 28 [.t (.v (.int .i64 0)), .t (.v (.int .i64 0)), .t (.v (.int .i64 0)), .t (.v (.bool false)), .nl] := ⟨_, _, _, inf28, rfl, rfl⟩
instance : Zr Tryz.prog 31 [.t (.v (.int .u64 0))] := ⟨_, _, _, inf31, rfl, rfl⟩
instance : Zr Tryz.prog 38 [.t (.v (.int .i64 0)), .t (.v (.int .i64 0)), .t (.v (.int .i64 0)), .t (.v (.int .i64 0)), .t (.v (.int .i64 0)), .t (.v (.int .i64 0)), .t (.v (.bool false)), .nl] := ⟨_, _, _, inf38, rfl, rfl⟩
instance : Zr Tryz.prog 42 [.t (.v (.int .i64 0)), .t (.v (.int .i64 0)), .t (.v (.int .i64 0)), .t (.v (.int .i64 0))] := ⟨_, _, _, inf42, rfl, rfl⟩
instance : Zr Tryz.prog 49 [.t (.v (.int .i64 0)), .nl, .nl, .nl] := ⟨_, _, _, inf49, rfl, rfl⟩
instance : Zr Tryz.prog 53 [.t (.v (.int .i64 0)), .nl, .nl] := ⟨_, _, _, inf53, rfl, rfl⟩
instance : Zr Tryz.prog 72 [.t (.v (.int .i64 0)), .t (.v (.int .i64 0)), .t (.v (.int .i64 0))] := ⟨_, _, _, inf72, rfl, rfl⟩
instance : Zr Tryz.prog 84 [.nl] := ⟨_, _, _, inf84, rfl, rfl⟩
instance : Zr Tryz.prog 87 [.t (.v (.int .i64 0)), .t (.v (.int .i64 0)), .t (.v (.bool false)), .t (.v (.bool false)), .nl] := ⟨_, _, _, inf87, rfl, rfl⟩
instance : Zr Tryz.prog 90 [.t (.v (.bool false)), .t (.v (.int .i64 0)), .t (.v (.int .i64 0)), .nl] := ⟨_, _, _, inf90, rfl, rfl⟩
instance : Zr Tryz.prog 103 [.t (.v (.int .i64 0)), .nl, .nl, .nl, .t (.v (.int .i64 0)), .t (.v (.int .i64 0)), .t (.v (.int .i64 0)), .t (.v (.int .i64 0)), .t (.v (.int .i64 0)), .t (.v (.int .i64 0)), .t (.v (.int .i64 0)), .t (.v (.int .i64 0)), .t (.v (.int .i64 0)), .t (.v (.int .i64 0)), .nl, .t (.v (.int .i64 0)), .t (.v (.int .i64 0))] := ⟨_, _, _, inf103, rfl, rfl⟩
instance : Zr Tryz.prog 143 [.t (.v (.int .i64 0)), .t (.v (.int .i64 0)), .t (.v (.bool false)), .t (.v (.bool false)), .nl, .nl, .t (.v (.int .i64 0)), .t (.v (.int .i64 0)), .t (.v (.int .i64 0)), .t (.v (.int .i64 0)), .nl] := ⟨_, _, _, inf143, rfl, rfl⟩
instance : Zr Tryz.prog 165 [.t (.v (.int .i64 0)), .t (.v (.int .i64 0)), .t (.v (.int .i64 0)), .t (.v (.int .i64 0)), .t (.v (.int .i64 0))] := ⟨_, _, _, inf165, rfl, rfl⟩
instance : Bp Tryz.prog 24 [(0, 1), (1, 1), (2, 1), (3, 1), (4, 1), (5, 1), (6, 1), (7, 1), (8, 1), (9, 1), (10, 1)] := ⟨_, ud24, by kernel_rfl⟩
instance : Bp Tryz.prog 28 [(0, 1), (1, 1), (2, 1), (3, 1), (4, 1)] := ⟨_, ud28, by kernel_rfl⟩
instance : Bp Tryz.prog 38 [(0, 1), (1, 1), (2, 1), (3, 5)] := ⟨_, ud38, by kernel_rfl⟩
instance : Bp Tryz.prog 42 [(0, 1), (1, 1), (2, 1), (3, 1)] := ⟨_, ud42, by kernel_rfl⟩
instance : Bp Tryz.prog 49 [(0, 1), (1, 1), (2, 1), (3, 1)] := ⟨_, ud49, by kernel_rfl⟩
instance : Bp Tryz.prog 53 [(0, 1), (1, 1), (2, 1)] := ⟨_, ud53, by kernel_rfl⟩
instance : Bp Tryz.prog 72 [(0, 1), (1, 1), (2, 1)] := ⟨_, ud72, by kernel_rfl⟩
instance : Bp Tryz.prog 84 [(0, 1)] := ⟨_, ud84, by kernel_rfl⟩
instance : Bp Tryz.prog 87 [(0, 1), (1, 1), (2, 1), (3, 1), (4, 1)] := ⟨_, ud87, by kernel_rfl⟩
instance : Bp Tryz.prog 90 [(0, 1), (1, 1), (2, 1), (3, 1)] := ⟨_, ud90, by kernel_rfl⟩
instance : Bp Tryz.prog 103 [(0, 4), (4, 11), (15, 1), (16, 1)] := ⟨_, ud103, by kernel_rfl⟩
instance : Bp Tryz.prog 143 [(0, 5), (5, 1), (6, 4), (10, 1)] := ⟨_, ud143, by kernel_rfl⟩
instance : Bp Tryz.prog 165 [(0, 1), (1, 4)] := ⟨_, ud165, by kernel_rfl⟩
end
section
def ixF {α : Type} (p : α → Bool) : List α → Int
 | [] => -1
 | a :: l => if p a then 0 else if ixF p l < 0 then -1 else ixF p l + 1
theorem ixF_b {α : Type} (p : α → Bool) : ∀ l : List α, -1 ≤ ixF p l ∧ ixF p l < l.length
  | [] => by simp [ixF]
  | a :: l => by have := ixF_b p l; unfold ixF; simp only [List.length_cons]; repeat' split
                 all_goals omega
theorem ixF_at {α : Type} (p : α → Bool) : ∀ (l : List α) (j : Nat) (a : α), (∀ q, q < j → ∀ b, l[q]? = some b → p b = false) → l[j]? = some a → p a = true → ixF p l = j
 | [], j, a, _, h, _ => by simp at h
 | b :: l, 0, a, _, h, hp => by simp at h; subst h; simp [ixF, hp]
 | b :: l, j + 1, a, h0, h, hp => by
  have h1 := ixF_at p l j a (fun q hq c hc => h0 (q + 1) (by omega) c (by simpa using hc)) (by simpa using h) hp
  have h2 := h0 0 (by omega) b rfl
  unfold ixF
  rw [h2, h1]; simp; omega
theorem ixF_none {α : Type} (p : α → Bool) : ∀ l : List α, (∀ q : Nat, ∀ b, l[q]? = some b → p b = false) → ixF p l = -1
 | [], _ => rfl
 | b :: l, h0 => by
  have h1 := ixF_none p l (fun q c hc => h0 (q + 1) c (by simpa using hc))
  have h2 := h0 0 b rfl
  unfold ixF
  rw [h2, h1]; simp
theorem ixF_get {α : Type} (p : α → Bool) : ∀ l : List α, 0 ≤ ixF p l → ∃ a, l[(ixF p l).toNat]? = some a ∧ p a = true
 | [], h => by simp [ixF] at h
 | b :: l, h => by
  unfold ixF at h ⊢
  cases hp : p b
  ·simp only [hp, Bool.false_eq_true, if_false] at h ⊢
   by_cases h2 : ixF p l < 0
   ·rw [if_pos h2] at h; omega
   ·rw [if_neg h2] at h ⊢
    obtain ⟨a, ha, hq⟩ := ixF_get p l (by omega)
    refine ⟨a, ?_, hq⟩
    rw [show (ixF p l + 1).toNat = (ixF p l).toNat + 1 by omega]; simpa using ha
  ·exact ⟨b, by simp, hp⟩
theorem ixF_yes {α : Type} (p : α → Bool) {l : List α} {q : Nat} {a : α} (h : l[q]? = some a) (hp : p a = true) : 0 ≤ ixF p l := by
 by_cases h0 : 0 ≤ ixF p l
 ·exact h0
 ·exfalso
  have hb := (ixF_b p l).1
  suffices h : ∀ (l : List α) (q : Nat), l[q]? = some a → ixF p l ≠ -1 by exact h l q ‹_› (by omega)
  intro l
  induction l with
  | nil => intro q h; simp at h
  | cons b l ih =>
   intro q h
   unfold ixF
   cases q with
   | zero => simp at h; subst h; simp [hp]
   | succ q =>
    have h1 := ih q (by simpa using h)
    have h2 := (ixF_b p l).1
    repeat' split
    all_goals omega
def putOk (l : List DWait) (t : Int) : Bool := decide (0 ≤ t ∧ t < l.length ∧ (l.getD t.toNat default).on = false)
def putW (l : List DWait) (t : Int) (w : DWait) : List DWait := if putOk l t then l.set t.toNat ⟨true, w.ticket, w.seq, w.cases⟩ else l
def cutOk (l : List DWait) (t : Int) : Bool := decide (0 ≤ t ∧ t < l.length ∧ (l.getD t.toNat default).on = true)
def w0 : DWait := ⟨false, 0, 0, []⟩
def cutW (l : List DWait) (t : Int) : List DWait := if cutOk l t then l.set t.toNat w0 else l
theorem putW_len (l : List DWait) (t : Int) (w : DWait) : (putW l t w).length = l.length := by unfold putW; split <;> simp
theorem cutW_len (l : List DWait) (t : Int) : (cutW l t).length = l.length := by unfold cutW; split <;> simp
structure FS where
 th : Int
 wh : Int
 ok : Bool
def isC (d h : Int) (c : DCase) : Bool := decide (c.dir = d ∧ c.handle = h)
def firK (l : List DWait) (d h : Int) : Nat → FS
 | 0 => ⟨0, 0, false⟩
 | k + 1 => if (l.getD k default).on = true ∧ 0 ≤ ixF (isC d h) (l.getD k default).cases ∧ ((firK l d h k).ok = false ∨ (l.getD k default).ticket < (l.getD (firK l d h k).th.toNat default).ticket) then ⟨k, ixF (isC d h) (l.getD k default).cases, true⟩ else firK l d h k
theorem firK_ok (l : List DWait) (d h : Int) (k : Nat) : ((firK l d h k).ok = false ∧ (firK l d h k).th = 0 ∧ (firK l d h k).wh = 0) ∨ ((firK l d h k).ok = true ∧ ∃ t : Nat, (firK l d h k).th = t ∧ t < k ∧ (l.getD t default).on = true ∧ (firK l d h k).wh = ixF (isC d h) (l.getD t default).cases ∧ 0 ≤ (firK l d h k).wh) := by
 induction k with
 | zero => exact .inl ⟨rfl, rfl, rfl⟩
 | succ k ih =>
  unfold firK
  split
  ·rename_i hc; exact .inr ⟨rfl, k, rfl, by omega, hc.1, rfl, hc.2.1⟩
  ·rcases ih with ih | ⟨h0, t, h1, h2, h3, h4, h5⟩
   ·exact .inl ih
   ·exact .inr ⟨h0, t, h1, by omega, h3, h4, h5⟩
end
section
def okW (l : List DWait) : Prop := l.length ≤ 2932031007402 ∧ ∀ w ∈ l, w.cases.length ≤ 5864062014805
theorem okW.at {l : List DWait} (h : okW l) {q : Nat} {a : DWait} (ha : l[q]? = some a) : a.cases.length ≤ 5864062014805 := h.2 a (List.mem_of_getElem? ha)
theorem getD_of {α : Type} {l : List α} {n : Nat} {a d : α} (h : l[n]? = some a) : l.getD n d = a := by rw [List.getD_eq_getElem?_getD, h]; rfl
end
section
theorem clone_Cs (l : List DCase) (h : l.length ≤ 5864062014805) : Cd Tryz.prog 135 [.ln (l.map tCs)] (.sl 0 0 l.length) [.row 0 72 3 (l.map tCs)] := by
 refine Cd.enter' Tryz.func135 rfl Tryz.ntmps135 rfl ?_
 repeat' (first | ((with_reducible refine kAL ?_); (first | refine A_eqnil rfl rfl 26 _ _ rfl ud26 rfl (fun b hb => ?_) | refine uA ?_)) | refine uC ?_ | refine kcc rfl (fun hc => ?_) (fun hc => ?_) | fail)
 ·have hl : l = [] := by simpa using hb hc
  subst hl
  refine Fin.wk (Wk.own 2 rfl 72 3 (.push rfl rfl)) ?_
  exact Fin.q Tryz.results135 (.cons (.tmp rfl) .nil) [0]
 ·exact Fin.q Tryz.results135 (.cons (.tmp rfl) .nil) [0]
theorem clone_Wt (l : List DWait) (h : l.length ≤ 2932031007402) : Cd Tryz.prog 134 [.ln (l.map tWt)] (.sl 0 0 l.length) [.row 0 90 4 (l.map tWt)] := by
 refine Cd.enter' Tryz.func134 rfl Tryz.ntmps134 rfl ?_
 repeat' (first | ((with_reducible refine kAL ?_); (first | refine A_eqnil rfl rfl 46 _ _ rfl ud46 rfl (fun b hb => ?_) | refine uA ?_)) | refine uC ?_ | refine kcc rfl (fun hc => ?_) (fun hc => ?_) | fail)
 ·have hl : l = [] := by simpa using hb hc
  subst hl
  refine Fin.wk (Wk.own 2 rfl 90 4 (.push rfl rfl)) ?_
  exact Fin.q Tryz.results134 (.cons (.tmp rfl) .nil) [0]
 ·exact Fin.q Tryz.results134 (.cons (.tmp rfl) .nil) [0]
theorem clone_Ch (l : List DChan) (h : l.length ≤ 2932031007402) : Cd Tryz.prog 101 [.ln (l.map tCh)] (.sl 0 0 l.length) [.row 0 87 5 (l.map tCh)] := by
 refine Cd.enter' Tryz.func101 rfl Tryz.ntmps101 rfl ?_
 repeat' (first | ((with_reducible refine kAL ?_); (first | refine A_eqnil rfl rfl 45 _ _ rfl ud45 rfl (fun b hb => ?_) | refine uA ?_)) | refine uC ?_ | refine kcc rfl (fun hc => ?_) (fun hc => ?_) | fail)
 ·have hl : l = [] := by simpa using hb hc
  subst hl
  refine Fin.wk (Wk.own 2 rfl 87 5 (.push rfl rfl)) ?_
  exact Fin.q Tryz.results101 (.cons (.tmp rfl) .nil) [0]
 ·exact Fin.q Tryz.results101 (.cons (.tmp rfl) .nil) [0]
end
section
attribute [local irreducible] AL AW RG Fin C Cd Cio thenQ blockQ retQ
set_option maxRecDepth 100000
end
section
attribute [local irreducible] AL AW RG Fin C Cd Cio thenQ blockQ retQ
set_option maxRecDepth 100000
theorem DCase_ext {a b : DCase} (h : a.dir = b.dir ∧ a.handle = b.handle ∧ a.value = b.value) : a = b := by
 obtain ⟨a1, a2, a3⟩ := a; obtain ⟨b1, b2, b3⟩ := b; simp only at h; rw [h.1, h.2.1, h.2.2]
theorem cases_c (a b : List DCase) (ha : a.length ≤ 1152921504606846976) : Cd Tryz.prog 84 [.ln (a.map tCs), .ln (b.map tCs)] (bo (decide (a = b))) [] := by
 have h1 : (a.map tCs).length = a.length := List.length_map _
 have h2 : (b.map tCs).length = b.length := List.length_map _
 refine Cd.enter' Tryz.func84 rfl Tryz.ntmps84 rfl ?_
 repeat' (first | refine uA ?_ | refine uC ?_ | refine kcp rfl (fun hc => ?_) (fun hc => ?_) | fail)
 ·refine Fin.q Tryz.results84 (.cons (.tmp rfl) .nil) [] (hr := (.t ?_))
  have : a ≠ b := by rintro rfl; exact hc rfl
  simp [this]
 ·refine AW.loopP (fun (i : Nat) => ∀ j, j < i → a.getD j default = b.getD j default) (fun (i : Nat) => (pu (pu (pu (pu (pu (fun _ => .any) 0 (.ln (a.map tCs))) 1 (.ln (b.map tCs))) 4 (bo false)) 12 (i64 (a.map tCs).length)) 13 (i64 i))) (fun (i : Nat) => []) (fun (i : Nat) => a.length + 1 - i) (0) ?_ ?_ ?_
  ·intro j hj; omega
  ·exact Wk.cq 0
  ·intro i hi
   repeat' (first | refine uA ?_ | ((with_reducible refine kRG ?_); (first | refine R_idx rfl rfl 26 _ _ rfl ud26 inf72 (by decide) (by exact .inl rfl) rfl (by omega) _ (by with_reducible exact Int.toNat_natCast _) (by exact map_get (get_D (x := (default : DCase)) (by omega))) rfl (cs' := [_, _, _]) rfl ?_ | refine R_nes rfl rfl 72 72 _ _ rfl rfl rfl (by kernel_rfl) (fun w => eqs72 9998 _ _ _ _ _ _ w) (by rfl) ?_ | refine uR ?_)) | refine uC ?_ | refine kcp rfl (fun hc => ?_) (fun hc => ?_) | refine kcn rfl (fun hc => ?_) (fun hc => ?_) | refine AW.drawU (id := 6) mixed 0 qR ?_ | fail)
   ·refine Fin.q Tryz.results84 (.cons (.tmp rfl) .nil) [] (hr := (.t ?_))
    have : a ≠ b := by
     rintro rfl; exact absurd hc (by simp)
    simp [this]
   ·refine ⟨i + 1, fun j hj => ?_, by omega, ?_⟩
    ·by_cases e : j = i
     ·subst e; exact DCase_ext (by simpa using hc)
     ·exact hi j (by omega)
    ·exact Wk.cq 0
   ·refine Fin.q Tryz.results84 (.cons (.tmp rfl) .nil) [] (hr := (.t ?_))
    have : a = b := all_eq (z := default) (by omega) fun j hj => hi j (by omega)
    simp [this]
end
section
attribute [local irreducible] AL AW RG Fin C Cd Cio thenQ blockQ retQ
set_option maxRecDepth 100000
theorem set_same {l : List DWait} {q : Nat} {a : DWait} (h : l[q]? = some a) : l.set q ⟨a.on, a.ticket, a.seq, a.cases⟩ = l := by
 obtain ⟨hq, e⟩ := List.getElem?_eq_some_iff.1 h
 rw [← e]; exact List.set_getElem_self hq
theorem putOk_yes {l : List DWait} {n : Nat} {a : DWait} (h : l[n]? = some a) (ho : a.on = false) : putOk l n = true := by
 have := get_lt h
 unfold putOk; rw [Int.toNat_natCast, getD_of h]; exact decide_eq_true ⟨by omega, by omega, ho⟩
theorem putOk_on {l : List DWait} {n : Nat} {a : DWait} (h : l[n]? = some a) (ho : a.on = true) : putOk l n = false := by
 unfold putOk; rw [Int.toNat_natCast, getD_of h]; exact decide_eq_false fun k => by rw [ho] at k; simp at k
theorem putOk_out {l : List DWait} {t : Int} (h : ¬ (0 ≤ t ∧ t < l.length)) : putOk l t = false := by unfold putOk; exact decide_eq_false fun k => h ⟨k.1, k.2.1⟩
theorem cutOk_yes {l : List DWait} {n : Nat} {a : DWait} (h : l[n]? = some a) (ho : a.on = true) : cutOk l n = true := by
 have := get_lt h
 unfold cutOk; rw [Int.toNat_natCast, getD_of h]; exact decide_eq_true ⟨by omega, by omega, ho⟩
theorem cutOk_off {l : List DWait} {n : Nat} {a : DWait} (h : l[n]? = some a) (ho : a.on = false) : cutOk l n = false := by
 unfold cutOk; rw [Int.toNat_natCast, getD_of h]; exact decide_eq_false fun k => by rw [ho] at k; simp at k
theorem cutOk_out {l : List DWait} {t : Int} (h : ¬ (0 ≤ t ∧ t < l.length)) : cutOk l t = false := by unfold cutOk; exact decide_eq_false fun k => h ⟨k.1, k.2.1⟩
theorem putW_yes {l : List DWait} {n : Nat} {w : DWait} (h : putOk l n = true) : putW l n w = l.set n ⟨true, w.ticket, w.seq, w.cases⟩ := by unfold putW; rw [h, if_pos rfl, Int.toNat_natCast]
theorem putW_no {l : List DWait} {t : Int} {w : DWait} (h : putOk l t = false) : putW l t w = l := by unfold putW; rw [h]; rfl
theorem cutW_yes {l : List DWait} {n : Nat} (h : cutOk l n = true) : cutW l n = l.set n w0 := by unfold cutW; rw [h, if_pos rfl, Int.toNat_natCast]
theorem cutW_no {l : List DWait} {t : Int} (h : cutOk l t = false) : cutW l t = l := by unfold cutW; rw [h]; rfl
theorem wcopy_c (l : List DWait) (hl : okW l) : Cd Tryz.prog 102 [.ln (l.map tWt)] (.sl 0 0 l.length) [.row 0 90 4 (l.map tWt)] := by
 have h0 := hl.1
 have h1 : (l.map tWt).length = l.length := List.length_map _
 first | refine Cd.enter' Tryz.func102 rfl Tryz.ntmps102 rfl ?_ | refine Cio.enter' Tryz.func102 rfl Tryz.ntmps102 rfl qM ?_ | refine C.enter' Tryz.func102 rfl Tryz.ntmps102 rfl qM ?_
 repeat' (first | ((with_reducible refine kAL ?_); (first | refine uK (clone_Wt l h0) ?_ | refine uA ?_)) | refine uC ?_ | fail)
 refine AW.loopP (fun (q : Nat) => q ≤ l.length) (fun (q : Nat) => (pu (pu (pu (fun _ => .any) 3 (.sl 0 0 l.length)) 8 (i64 l.length)) 9 (i64 q))) (fun (q : Nat) => [.row 0 90 4 (l.map tWt)]) (fun (q : Nat) => l.length - q) (0) ?_ ?_ ?_
 ·exact Nat.zero_le _
 ·exact Wk.cq 1
 ·intro q h2
  by_cases hq : q < l.length
  ·obtain ⟨a, ha⟩ : ∃ a, l[q]? = some a := ⟨_, List.getElem?_eq_getElem hq⟩
   repeat' (first | ((with_reducible refine kAL ?_); (first | refine A_cl (d := 19) rfl rfl Tryz.func135 rfl (clone_Cs a.cases (hl.at ha)) ?_; (try refine AL.wk (Wk.freeze 1 rfl 19 rfl (by first | exact .all (by first | (simp <;> fail) | fail) | fail) qN) ?_) | refine A_store_rp rfl rfl 26 _ _ rfl inf26 (by decide) rfl rfl (by exact map_get (by assumption)) rfl rfl rfl (Nat.le_of_ble_eq_true rfl) (by exact map_set (f := tWt) (x := ⟨_, _, _, _⟩)) qN ?_ | refine uA ?_)) | refine uC ?_ | fail)
   all_goals first | (exfalso; omega) | skip
   rw [set_same ha]
   refine ⟨q + 1, by omega, by omega, ?_⟩
   exact Wk.cq 1
  ·repeat' (first | refine uA ?_ | refine uC ?_ | fail)
   all_goals first | (exfalso; omega) | (exact Fin.q Tryz.results102 (.cons (.tmp rfl) .nil) [0])
theorem wcopyR_c (l : List DWait) (hl : okW l) : Cd Tryz.prog 113 [.ln (l.map tWt)] (.sl 0 0 l.length) [.row 0 90 4 (l.map tWt)] := by
 have h0 := hl.1
 have h1 : (l.map tWt).length = l.length := List.length_map _
 first | refine Cd.enter' Tryz.func113 rfl Tryz.ntmps113 rfl ?_ | refine Cio.enter' Tryz.func113 rfl Tryz.ntmps113 rfl qM ?_ | refine C.enter' Tryz.func113 rfl Tryz.ntmps113 rfl qM ?_
 repeat' (first | refine uA ?_ | refine uC ?_ | fail)
 refine AW.wk (Wk.own 3 rfl 90 4 (.push rfl rfl)) ?_
 refine AW.loopP (fun (x : Nat × Nat × List DWait) => x.1 ≤ l.length ∧ x.2.2 = l.take x.1) (fun (x : Nat × Nat × List DWait) => (pu (pu (pu (pu (fun _ => .any) 6 (.ln (l.map tWt))) 7 (i64 (l.map tWt).length)) 8 (i64 x.1)) 3 (.sl 0 x.2.1 x.1))) (fun (x : Nat × Nat × List DWait) => [.row x.2.1 90 4 (x.2.2.map tWt)]) (fun (x : Nat × Nat × List DWait) => l.length - x.1) ((0, 0, [])) ?_ ?_ ?_
 ·exact ⟨Nat.zero_le _, rfl⟩
 ·exact Wk.cq 1
 ·rintro ⟨q, k, O⟩ ⟨h2, h3⟩
  dsimp only at h2 h3 ⊢
  have h6 : O.length = q := by rw [h3, List.length_take]; omega
  have h4 : (O.map tWt).length = q := by rw [List.length_map, h6]
  by_cases hq : q < l.length
  ·obtain ⟨a, ha⟩ : ∃ a, l[q]? = some a := ⟨_, List.getElem?_eq_getElem hq⟩
   have hca := hl.at ha
   have h5 : (a.cases.map tCs).length = a.cases.length := List.length_map _
   repeat' (first | ((with_reducible refine kAL ?_); (first | (refine zkD 15 rfl ?_; refine uA ?_; (try refine AL.wk (Wk.freeze 2 rfl 15 rfl (by first | exact .all (by first | (simp <;> fail) | fail) | fail) qN) ?_)) | refine A_append rfl rfl _ _ 46 rfl ud46 inf90 rfl rfl rfl (by (simp; omega)) (by exact .all rfl (by rfl)) qB qB (by exact app_one (f := tWt) (x := a) (by omega)) qN qS ?_ | refine A_lit rfl rfl 46 1 _ rfl ud46 inf90 (.cons rfl .nil) (els := [[_, _, _, _]]) rfl (by exact (rfl : _ = List.map tWt [a])) rfl (Nat.ne_of_beq_eq_false rfl) (Nat.le_of_ble_eq_true rfl) (Nat.le_of_ble_eq_true rfl) (.push qL qN) ?_ | refine uA ?_)) | refine uC ?_ | fail)
   all_goals first | (exfalso; omega) | skip
   refine ⟨(q + 1, k + 1, O ++ [a]), ⟨by dsimp only; omega, by dsimp only; rw [List.take_add_one, ha, h3]; rfl⟩, by dsimp only; omega, ?_⟩
   exact Wk.cq 1
  ·have e : q = l.length := by omega
   subst e
   rw [List.take_length] at h3
   subst h3
   repeat' (first | refine uA ?_ | refine uC ?_ | fail)
   all_goals first | (exfalso; omega) | (exact Fin.q Tryz.results113 (.cons (.tmp rfl) .nil) [0])
theorem at_c (l : List DWait) (t : Int) : Cd Tryz.prog 159 [.ln (l.map tWt), i64 t] (bo (decide (0 ≤ t ∧ t < l.length))) [] := by
 have h1 : (l.map tWt).length = l.length := List.length_map _
 by_cases p1 : 0 ≤ t <;> by_cases p2 : t < l.length
 all_goals
  refine Cd.enter' Tryz.func159 rfl Tryz.ntmps159 rfl ?_
  repeat' (first | refine uA ?_ | refine uC ?_ | fail)
  all_goals first | (exfalso; omega) | (refine Fin.q Tryz.results159 (.cons (.tmp rfl) .nil) [] (hr := (.t ?_)))
  all_goals first | (rw [decide_eq_true (by omega)]; done) | (rw [decide_eq_false (by omega)]; done) | (simp [*]; done) | (simp; omega)
theorem wput_c (l : List DWait) (t : Int) (w : DWait) (hl : okW l) (hw : w.cases.length ≤ 5864062014805) : Cd Tryz.prog 142 [.ln (l.map tWt), i64 t, .agg [bo w.on, i64 w.ticket, i64 w.seq, .ln (w.cases.map tCs)]] (.tup [.sl 0 0 l.length, bo (putOk l t)]) [.row 0 90 4 ((putW l t w).map tWt)] := by
 have h1 : (l.map tWt).length = l.length := List.length_map _
 by_cases ht : 0 ≤ t ∧ t < l.length
 ·obtain ⟨n, rfl⟩ : ∃ n : Nat, t = n := ⟨t.toNat, by omega⟩
  obtain ⟨⟨on, tk, sq, cs⟩, ha⟩ : ∃ a, l[n]? = some a := ⟨_, List.getElem?_eq_getElem (by omega)⟩
  have cA := at_c l n
  rw [decide_eq_true ht] at cA
  cases on
  ·rw [putW_yes (putOk_yes ha rfl), putOk_yes ha rfl]
   refine Cd.enter' Tryz.func142 rfl Tryz.ntmps142 rfl ?_
   repeat' (first | ((with_reducible refine kAL ?_); (first | refine A_cl (d := 25) rfl rfl Tryz.func135 rfl (clone_Cs w.cases hw) ?_; (try refine AL.wk (Wk.freeze 2 rfl 25 rfl (by first | exact .all (by first | (simp <;> fail) | fail) | fail) qN) ?_) | refine uK (wcopy_c l hl) ?_ | refine uK (cA) ?_ | refine A_store_rp rfl rfl 90 _ _ rfl inf90 (by decide) rfl rfl (by exact map_get (by assumption)) rfl rfl rfl (Nat.le_of_ble_eq_true rfl) (by exact map_set (f := tWt) (x := ⟨_, _, _, _⟩)) qN ?_ | refine uA ?_)) | refine uC ?_ | fail)
   all_goals first | (exfalso; omega) | (exact Fin.q Tryz.results142 (.cons (.tmp rfl) (.cons (.tmp rfl) .nil)) [1])
  ·rw [putW_no (putOk_on ha rfl), putOk_on ha rfl]
   refine Cd.enter' Tryz.func142 rfl Tryz.ntmps142 rfl ?_
   repeat' (first | ((with_reducible refine kAL ?_); (first | refine uK (wcopy_c l hl) ?_ | refine uK (cA) ?_ | refine uA ?_)) | refine uC ?_ | fail)
   all_goals first | (exfalso; omega) | (exact Fin.q Tryz.results142 (.cons (.tmp rfl) (.cons (.tmp rfl) .nil)) [1])
 ·have cA := at_c l t
  rw [decide_eq_false ht] at cA
  rw [putW_no (putOk_out ht), putOk_out ht]
  refine Cd.enter' Tryz.func142 rfl Tryz.ntmps142 rfl ?_
  repeat' (first | ((with_reducible refine kAL ?_); (first | refine uK (wcopy_c l hl) ?_ | refine uK (cA) ?_ | refine uA ?_)) | refine uC ?_ | fail)
  all_goals first | (exfalso; omega) | (exact Fin.q Tryz.results142 (.cons (.tmp rfl) (.cons (.tmp rfl) .nil)) [1])
theorem wputR_c (l : List DWait) (t : Int) (w : DWait) (hl : okW l) (hw : w.cases.length ≤ 5864062014805) : Cd Tryz.prog 120 [.ln (l.map tWt), i64 t, .agg [bo w.on, i64 w.ticket, i64 w.seq, .ln (w.cases.map tCs)]] (.tup [.sl 0 0 l.length, bo (putOk l t)]) [.row 0 90 4 ((putW l t w).map tWt)] := by
 have h1 : (l.map tWt).length = l.length := List.length_map _
 have h5 : (w.cases.map tCs).length = w.cases.length := List.length_map _
 by_cases ht : 0 ≤ t ∧ t < l.length
 ·obtain ⟨n, rfl⟩ : ∃ n : Nat, t = n := ⟨t.toNat, by omega⟩
  obtain ⟨⟨on, tk, sq, cs⟩, ha⟩ : ∃ a, l[n]? = some a := ⟨_, List.getElem?_eq_getElem (by omega)⟩
  cases on
  ·rw [putW_yes (putOk_yes ha rfl), putOk_yes ha rfl]
   refine Cd.enter' Tryz.func120 rfl Tryz.ntmps120 rfl ?_
   repeat' (first | ((with_reducible refine kAL ?_); (first | (refine zkD 31 rfl ?_; refine uA ?_; (try refine AL.wk (Wk.freeze 2 rfl 31 rfl (by first | exact .all (by first | (simp <;> fail) | fail) | fail) qN) ?_)) | refine uK (wcopyR_c l hl) ?_ | refine A_store_rp rfl rfl 90 _ _ rfl inf90 (by decide) rfl rfl (by exact map_get (by assumption)) rfl rfl rfl (Nat.le_of_ble_eq_true rfl) (by exact map_set (f := tWt) (x := ⟨_, _, _, _⟩)) qN ?_ | refine uA ?_)) | refine uC ?_ | fail)
   all_goals first | (exfalso; omega) | (exact Fin.q Tryz.results120 (.cons (.tmp rfl) (.cons (.tmp rfl) .nil)) [1])
  ·rw [putW_no (putOk_on ha rfl), putOk_on ha rfl]
   refine Cd.enter' Tryz.func120 rfl Tryz.ntmps120 rfl ?_
   repeat' (first | ((with_reducible refine kAL ?_); (first | refine uK (wcopyR_c l hl) ?_ | refine uA ?_)) | refine uC ?_ | fail)
   all_goals first | (exfalso; omega) | (exact Fin.q Tryz.results120 (.cons (.tmp rfl) (.cons (.tmp rfl) .nil)) [1])
 ·rw [putW_no (putOk_out ht), putOk_out ht]
  by_cases h0 : t < 0
  all_goals
   refine Cd.enter' Tryz.func120 rfl Tryz.ntmps120 rfl ?_
   repeat' (first | ((with_reducible refine kAL ?_); (first | refine uK (wcopyR_c l hl) ?_ | refine uA ?_)) | refine uC ?_ | fail)
   all_goals first | (exfalso; omega) | (exact Fin.q Tryz.results120 (.cons (.tmp rfl) (.cons (.tmp rfl) .nil)) [1])
theorem wcut_c (l : List DWait) (t : Int) (hl : okW l) : Cd Tryz.prog 145 [.ln (l.map tWt), i64 t] (.tup [.sl 0 0 l.length, bo (cutOk l t)]) [.row 0 90 4 ((cutW l t).map tWt)] := by
 have h1 : (l.map tWt).length = l.length := List.length_map _
 by_cases ht : 0 ≤ t ∧ t < l.length
 ·obtain ⟨n, rfl⟩ : ∃ n : Nat, t = n := ⟨t.toNat, by omega⟩
  obtain ⟨⟨on, tk, sq, cs⟩, ha⟩ : ∃ a, l[n]? = some a := ⟨_, List.getElem?_eq_getElem (by omega)⟩
  have cA := at_c l n
  rw [decide_eq_true ht] at cA
  cases on
  ·rw [cutW_no (cutOk_off ha rfl), cutOk_off ha rfl]
   refine Cd.enter' Tryz.func145 rfl Tryz.ntmps145 rfl ?_
   repeat' (first | ((with_reducible refine kAL ?_); (first | refine uK (wcopy_c l hl) ?_ | refine uK (cA) ?_ | refine uA ?_)) | refine uC ?_ | fail)
   all_goals first | (exfalso; omega) | (exact Fin.q Tryz.results145 (.cons (.tmp rfl) (.cons (.tmp rfl) .nil)) [0])
  ·rw [cutW_yes (cutOk_yes ha rfl), cutOk_yes ha rfl]
   refine Cd.enter' Tryz.func145 rfl Tryz.ntmps145 rfl ?_
   repeat' (first | ((with_reducible refine kAL ?_); (first | (refine zkD 24 rfl ?_; refine uA ?_; (try refine AL.wk (Wk.nz 24 rfl (by exact .aggL (.cons (by exact .same _) (.cons (by exact .same _) (.cons (by exact .same _) (.cons (by exact .nlt) .nil)))))) ?_)) | refine uK (wcopy_c l hl) ?_ | refine uK (cA) ?_ | refine A_store_rp rfl rfl 90 _ _ rfl inf90 (by decide) rfl rfl (by exact map_get (by assumption)) rfl rfl rfl (Nat.le_of_ble_eq_true rfl) (by exact map_set (f := tWt) (x := w0)) qN ?_ | refine uA ?_)) | refine uC ?_ | fail)
   all_goals first | (exfalso; omega) | (exact Fin.q Tryz.results145 (.cons (.tmp rfl) (.cons (.tmp rfl) .nil)) [0])
 ·have cA := at_c l t
  rw [decide_eq_false ht] at cA
  rw [cutW_no (cutOk_out ht), cutOk_out ht]
  refine Cd.enter' Tryz.func145 rfl Tryz.ntmps145 rfl ?_
  repeat' (first | ((with_reducible refine kAL ?_); (first | refine uK (wcopy_c l hl) ?_ | refine uK (cA) ?_ | refine uA ?_)) | refine uC ?_ | fail)
  all_goals first | (exfalso; omega) | (exact Fin.q Tryz.results145 (.cons (.tmp rfl) (.cons (.tmp rfl) .nil)) [0])
theorem wcutR_c (l : List DWait) (t : Int) (hl : okW l) : Cd Tryz.prog 123 [.ln (l.map tWt), i64 t] (.tup [.sl 0 0 l.length, bo (cutOk l t)]) [.row 0 90 4 ((cutW l t).map tWt)] := by
 have h1 : (l.map tWt).length = l.length := List.length_map _
 by_cases ht : 0 ≤ t ∧ t < l.length
 ·obtain ⟨n, rfl⟩ : ∃ n : Nat, t = n := ⟨t.toNat, by omega⟩
  obtain ⟨⟨on, tk, sq, cs⟩, ha⟩ : ∃ a, l[n]? = some a := ⟨_, List.getElem?_eq_getElem (by omega)⟩
  cases on
  ·rw [cutW_no (cutOk_off ha rfl), cutOk_off ha rfl]
   refine Cd.enter' Tryz.func123 rfl Tryz.ntmps123 rfl ?_
   repeat' (first | ((with_reducible refine kAL ?_); (first | refine uK (wcopyR_c l hl) ?_ | refine uA ?_)) | refine uC ?_ | fail)
   all_goals first | (exfalso; omega) | (exact Fin.q Tryz.results123 (.cons (.tmp rfl) (.cons (.tmp rfl) .nil)) [0])
  ·rw [cutW_yes (cutOk_yes ha rfl), cutOk_yes ha rfl]
   refine Cd.enter' Tryz.func123 rfl Tryz.ntmps123 rfl ?_
   repeat' (first | ((with_reducible refine kAL ?_); (first | (refine zkD 28 rfl ?_; refine uA ?_; (try refine AL.wk (Wk.nz 28 rfl (by exact .aggL (.cons (by exact .same _) (.cons (by exact .same _) (.cons (by exact .same _) (.cons (by exact .nlt) .nil)))))) ?_)) | refine uK (wcopyR_c l hl) ?_ | refine A_store_rp rfl rfl 90 _ _ rfl inf90 (by decide) rfl rfl (by exact map_get (by assumption)) rfl rfl rfl (Nat.le_of_ble_eq_true rfl) (by exact map_set (f := tWt) (x := w0)) qN ?_ | refine uA ?_)) | refine uC ?_ | fail)
   all_goals first | (exfalso; omega) | (exact Fin.q Tryz.results123 (.cons (.tmp rfl) (.cons (.tmp rfl) .nil)) [0])
 ·rw [cutW_no (cutOk_out ht), cutOk_out ht]
  by_cases h0 : t < 0
  all_goals
   refine Cd.enter' Tryz.func123 rfl Tryz.ntmps123 rfl ?_
   repeat' (first | ((with_reducible refine kAL ?_); (first | refine uK (wcopyR_c l hl) ?_ | refine uA ?_)) | refine uC ?_ | fail)
   all_goals first | (exfalso; omega) | (exact Fin.q Tryz.results123 (.cons (.tmp rfl) (.cons (.tmp rfl) .nil)) [0])
end
end Go.Proofs.YtbpgopomninedaaGreat
