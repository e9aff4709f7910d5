/- Joined: XTUI, XTWaitP, XTIdxF, XTAbb, XTShape, XTPlain, XTBit2. -/
import Derived.Test.YtnfbggpkiekpdaaKR15d
import Derived.Test.YtnfbggpkiekpdaaKR15g
import Derived.Test.YtnfbggpkiekpdaaKR15e
import Derived.Test.YtnfbggpkiekpdaaKR15c
import Derived.Laws.BitsAllLaws
namespace Go.Proofs.Ytnfbggpkiekpdaa
open Go.RowKit
set_option linter.unusedVariables false
set_option linter.unusedSimpArgs false
set_option linter.unnecessarySimpa false
set_option maxRecDepth 100000
set_option maxHeartbeats 64000000
section
@[reducible] def iu3 := Ud.mk ud3
@[reducible] def iu4 := Ud.mk ud4
@[reducible] def iu22 := Ud.mk ud22
@[reducible] def iu24 := Ud.mk ud24
@[reducible] def iu25 := Ud.mk ud25
@[reducible] def iu27 := Ud.mk ud27
@[reducible] def iu30 := Ud.mk ud30
@[reducible] def iu35 := Ud.mk ud35
@[reducible] def iu43 := Ud.mk ud43
@[reducible] def iu47 := Ud.mk ud47
@[reducible] def iu55 := Ud.mk ud55
@[reducible] def iu56 := Ud.mk ud56
@[reducible] def iu57 := Ud.mk ud57
@[reducible] def iu59 := Ud.mk ud59
@[reducible] def iu61 := Ud.mk ud61
@[reducible] def iu63 := Ud.mk ud63
@[reducible] def iu65 := Ud.mk ud65
@[reducible] def iu69 := Ud.mk ud69
@[reducible] def iu71 := Ud.mk ud71
@[reducible] def iu82 := Ud.mk ud82
@[reducible] def iu90 := Ud.mk ud90
@[reducible] def iu92 := Ud.mk ud92
@[reducible] def iu93 := Ud.mk ud93
@[reducible] def iu95 := Ud.mk ud95
@[reducible] def iu101 := Ud.mk ud101
@[reducible] def iu106 := Ud.mk ud106
@[reducible] def iu110 := Ud.mk ud110
@[reducible] def iu111 := Ud.mk ud111
@[reducible] def iu113 := Ud.mk ud113
@[reducible] def iu117 := Ud.mk ud117
@[reducible] def iu122 := Ud.mk ud122
@[reducible] def iu125 := Ud.mk ud125
@[reducible] def iu129 := Ud.mk ud129
@[reducible] def iu139 := Ud.mk ud139
@[reducible] def iu141 := Ud.mk ud141
attribute [instance] iu3 iu4 iu22 iu24 iu25 iu27 iu30 iu35 iu43 iu47 iu55 iu56 iu57 iu59 iu61 iu63 iu65 iu69 iu71 iu82 iu90 iu92 iu93 iu95 iu101 iu106 iu110 iu111 iu113 iu117 iu122 iu125 iu129 iu139 iu141
@[reducible] def ii3 := In.mk inf3
@[reducible] def ii4 := In.mk inf4
@[reducible] def ii22 := In.mk inf22
@[reducible] def ii24 := In.mk inf24
@[reducible] def ii25 := In.mk inf25
@[reducible] def ii27 := In.mk inf27
@[reducible] def ii30 := In.mk inf30
@[reducible] def ii35 := In.mk inf35
@[reducible] def ii43 := In.mk inf43
@[reducible] def ii47 := In.mk inf47
@[reducible] def ii55 := In.mk inf55
@[reducible] def ii56 := In.mk inf56
@[reducible] def ii57 := In.mk inf57
@[reducible] def ii59 := In.mk inf59
@[reducible] def ii61 := In.mk inf61
@[reducible] def ii63 := In.mk inf63
@[reducible] def ii65 := In.mk inf65
@[reducible] def ii69 := In.mk inf69
@[reducible] def ii71 := In.mk inf71
@[reducible] def ii82 := In.mk inf82
@[reducible] def ii90 := In.mk inf90
@[reducible] def ii92 := In.mk inf92
@[reducible] def ii93 := In.mk inf93
@[reducible] def ii95 := In.mk inf95
@[reducible] def ii101 := In.mk inf101
@[reducible] def ii106 := In.mk inf106
@[reducible] def ii110 := In.mk inf110
@[reducible] def ii111 := In.mk inf111
@[reducible] def ii113 := In.mk inf113
@[reducible] def ii117 := In.mk inf117
@[reducible] def ii122 := In.mk inf122
@[reducible] def ii125 := In.mk inf125
@[reducible] def ii129 := In.mk inf129
@[reducible] def ii139 := In.mk inf139
@[reducible] def ii141 := In.mk inf141
attribute [instance] ii3 ii4 ii22 ii24 ii25 ii27 ii30 ii35 ii43 ii47 ii55 ii56 ii57 ii59 ii61 ii63 ii65 ii69 ii71 ii82 ii90 ii92 ii93 ii95 ii101 ii106 ii110 ii111 ii113 ii117 ii122 ii125 ii129 ii139 ii141
instance : Zr Try.prog 24 [.t (.v (.int .i64 0)), .t (.v (.int .i64 0)), .t (.v (.int .i64 0)), .t (.v (.int .i64 0)), .t (.v (.int .i64 0)), .t (.v (.int .i64 0)), .t (.v (.int .i64 0)), .t (.v (.int .i64 0)), .t (.v (.int .i64 0)), .t (.v (.int .i64 0)), .nl] := ⟨_, _, _, inf24, rfl, rfl⟩
instance : Zr Try.prog 55 [.t (.v (.int .i64 0)), .t (.v (.int .i64 0))] := ⟨_, _, _, inf55, rfl, rfl⟩
instance : Zr Try.prog 59 [.t (.v (.int .i64 0)), .t (.v (.int .i64 0)), .nl, .nl, .t (.v (.int .i64 0))] := ⟨_, _, _, inf59, rfl, rfl⟩
instance : Zr Try.prog 63 [.t (.v (.int .i64 0)), .t (.v (.int .i64 0)), .t (.v (.int .i64 0)), .t (.v (.bool false)), .nl] := ⟨_, _, _, inf63, rfl, rfl⟩
instance : Zr Try.prog 65 [.t (.v (.int .i64 0)), .t (.v (.int .i64 0)), .t (.v (.int .i64 0)), .t (.v (.int .i64 0)), .t (.v (.int .i64 0)), .t (.v (.int .i64 0)), .t (.v (.bool false)), .nl] := ⟨_, _, _, inf65, rfl, rfl⟩
instance : Zr Try.prog 69 [.t (.v (.int .u64 0))] := ⟨_, _, _, inf69, rfl, rfl⟩
instance : Zr Try.prog 71 [.t (.v (.int .i64 0)), .t (.v (.int .i64 0)), .t (.v (.int .i64 0)), .t (.v (.int .i64 0))] := ⟨_, _, _, inf71, rfl, rfl⟩
instance : Zr Try.prog 82 [.t (.v (.int .i64 0)), .t (.v (.int .i64 0)), .t (.v (.int .i64 0)), .t (.v (.int .i64 0)), .t (.v (.int .i64 0))] := ⟨_, _, _, inf82, rfl, rfl⟩
instance : Zr Try.prog 92 [.nl, .nl, .nl, .t (.v (.bool false))] := ⟨_, _, _, inf92, rfl, rfl⟩
instance : Zr Try.prog 93 [.t (.v (.int .i64 0)), .t (.v (.int .i64 0))] := ⟨_, _, _, inf93, rfl, rfl⟩
instance : Zr Try.prog 101 [.t (.v (.int .i64 0)), .t (.v (.int .i64 0)), .t (.v (.int .i64 0))] := ⟨_, _, _, inf101, rfl, rfl⟩
instance : Zr Try.prog 113 [.t (.v (.int .i64 0)), .nl, .nl, .nl] := ⟨_, _, _, inf113, rfl, rfl⟩
instance : Zr Try.prog 117 [.t (.v (.int .i64 0)), .nl, .nl] := ⟨_, _, _, inf117, rfl, rfl⟩
instance : Zr Try.prog 125 [.t (.v (.int .i64 0)), .t (.v (.int .i64 0)), .t (.v (.bool false)), .t (.v (.bool false)), .nl] := ⟨_, _, _, inf125, rfl, rfl⟩
instance : Zr Try.prog 129 [.t (.v (.bool false)), .t (.v (.int .i64 0)), .t (.v (.int .i64 0)), .nl] := ⟨_, _, _, inf129, rfl, rfl⟩
instance : Bp Try.prog 24 [(0, 1), (1, 1), (2, 1), (3, 1), (4, 1), (5, 1), (6, 1), (7, 1), (8, 1), (9, 1), (10, 1)] := ⟨_, ud24, by kernel_rfl⟩
instance : Bp Try.prog 55 [(0, 1), (1, 1)] := ⟨_, ud55, by kernel_rfl⟩
instance : Bp Try.prog 59 [(0, 2), (2, 1), (3, 1), (4, 1)] := ⟨_, ud59, by kernel_rfl⟩
instance : Bp Try.prog 63 [(0, 1), (1, 1), (2, 1), (3, 1), (4, 1)] := ⟨_, ud63, by kernel_rfl⟩
instance : Bp Try.prog 65 [(0, 1), (1, 1), (2, 1), (3, 5)] := ⟨_, ud65, by kernel_rfl⟩
instance : Bp Try.prog 71 [(0, 1), (1, 1), (2, 1), (3, 1)] := ⟨_, ud71, by kernel_rfl⟩
instance : Bp Try.prog 92 [(0, 1), (1, 1), (2, 1), (3, 1)] := ⟨_, ud92, by kernel_rfl⟩
instance : Bp Try.prog 93 [(0, 1), (1, 1)] := ⟨_, ud93, by kernel_rfl⟩
instance : Bp Try.prog 101 [(0, 1), (1, 1), (2, 1)] := ⟨_, ud101, by kernel_rfl⟩
instance : Bp Try.prog 113 [(0, 1), (1, 1), (2, 1), (3, 1)] := ⟨_, ud113, by kernel_rfl⟩
instance : Bp Try.prog 117 [(0, 1), (1, 1), (2, 1)] := ⟨_, ud117, by kernel_rfl⟩
instance : Bp Try.prog 125 [(0, 1), (1, 1), (2, 1), (3, 1), (4, 1)] := ⟨_, ud125, by kernel_rfl⟩
instance : Ba Try.prog 82 1 [(0, 1), (1, 1), (2, 1), (3, 1), (4, 1)] := ⟨_, _, _, _, ud82, inf3, by kernel_rfl⟩
end
section
def ixF {α : Type} (p : α → Bool) : List α → Int
 | [] => -1
 | a :: l => if p a then 0 else if ixF p l < 0 then -1 else ixF p l + 1
theorem ixF_b {α : Type} (p : α → Bool) : ∀ l : List α, -1 ≤ ixF p l ∧ ixF p l < l.length
  | [] => by simp [ixF]
  | a :: l => by have := ixF_b p l; unfold ixF; simp only [List.length_cons]; repeat' split
                 all_goals omega
theorem ixF_at {α : Type} (p : α → Bool) : ∀ (l : List α) (j : Nat) (a : α), (∀ q, q < j → ∀ b, l[q]? = some b → p b = false) → l[j]? = some a → p a = true → ixF p l = j
 | [], j, a, _, h, _ => by simp at h
 | b :: l, 0, a, _, h, hp => by simp at h; subst h; simp [ixF, hp]
 | b :: l, j + 1, a, h0, h, hp => by
  have h1 := ixF_at p l j a (fun q hq c hc => h0 (q + 1) (by omega) c (by simpa using hc)) (by simpa using h) hp
  have h2 := h0 0 (by omega) b rfl
  unfold ixF
  rw [h2, h1]; simp; omega
theorem ixF_none {α : Type} (p : α → Bool) : ∀ l : List α, (∀ q : Nat, ∀ b, l[q]? = some b → p b = false) → ixF p l = -1
 | [], _ => rfl
 | b :: l, h0 => by
  have h1 := ixF_none p l (fun q c hc => h0 (q + 1) c (by simpa using hc))
  have h2 := h0 0 b rfl
  unfold ixF
  rw [h2, h1]; simp
theorem ixF_get {α : Type} (p : α → Bool) : ∀ l : List α, 0 ≤ ixF p l → ∃ a, l[(ixF p l).toNat]? = some a ∧ p a = true
 | [], h => by simp [ixF] at h
 | b :: l, h => by
  unfold ixF at h ⊢
  cases hp : p b
  ·simp only [hp, Bool.false_eq_true, if_false] at h ⊢
   by_cases h2 : ixF p l < 0
   ·rw [if_pos h2] at h; omega
   ·rw [if_neg h2] at h ⊢
    obtain ⟨a, ha, hq⟩ := ixF_get p l (by omega)
    refine ⟨a, ?_, hq⟩
    rw [show (ixF p l + 1).toNat = (ixF p l).toNat + 1 by omega]; simpa using ha
  ·exact ⟨b, by simp, hp⟩
theorem ixF_yes {α : Type} (p : α → Bool) {l : List α} {q : Nat} {a : α} (h : l[q]? = some a) (hp : p a = true) : 0 ≤ ixF p l := by
 by_cases h0 : 0 ≤ ixF p l
 ·exact h0
 ·exfalso
  have hb := (ixF_b p l).1
  suffices h : ∀ (l : List α) (q : Nat), l[q]? = some a → ixF p l ≠ -1 by exact h l q ‹_› (by omega)
  intro l
  induction l with
  | nil => intro q h; simp at h
  | cons b l ih =>
   intro q h
   unfold ixF
   cases q with
   | zero => simp at h; subst h; simp [hp]
   | succ q =>
    have h1 := ih q (by simpa using h)
    have h2 := (ixF_b p l).1
    repeat' split
    all_goals omega
def putOk (l : List DWait) (t : Int) : Bool := decide (0 ≤ t ∧ t < l.length ∧ (l.getD t.toNat default).on = false)
def putW (l : List DWait) (t : Int) (w : DWait) : List DWait := if putOk l t then l.set t.toNat ⟨true, w.ticket, w.seq, w.cases⟩ else l
def cutOk (l : List DWait) (t : Int) : Bool := decide (0 ≤ t ∧ t < l.length ∧ (l.getD t.toNat default).on = true)
def w0 : DWait := ⟨false, 0, 0, []⟩
def cutW (l : List DWait) (t : Int) : List DWait := if cutOk l t then l.set t.toNat w0 else l
theorem putW_len (l : List DWait) (t : Int) (w : DWait) : (putW l t w).length = l.length := by unfold putW; split <;> simp
theorem cutW_len (l : List DWait) (t : Int) : (cutW l t).length = l.length := by unfold cutW; split <;> simp
structure FS where
 th : Int
 wh : Int
 ok : Bool
end
section
attribute [local irreducible] AL AW RG Fin C Cd Cio thenQ blockQ retQ
set_option maxRecDepth 100000
theorem ixF_any {α : Type} (p : α → Bool) (l : List α) : decide (0 ≤ ixF p l) = l.any p := by
 cases h : l.any p
 ·refine decide_eq_false fun h2 => ?_
  obtain ⟨a, ha, hp⟩ := ixF_get p l h2
  rw [List.any_eq_false] at h
  exact h a (List.mem_of_getElem? ha) hp
 ·obtain ⟨a, ha, hp⟩ := List.any_eq_true.1 h
  obtain ⟨q, hq⟩ := List.getElem?_of_mem ha
  exact decide_eq_true (ixF_yes p hq hp)
theorem idxFI_c (f : FuncId) (fi cap : List AV) (p : Int → Bool) (l : List Int) (hg : ∀ c ∈ l, CV Try.prog (.fn (.func f) fi cap) [i64 c] (.t (.v (.bool (p c)))) []) (hup : upB (keepG 0) (.fn (.func f) fi cap) = .fn (.func f) fi cap)
  (hl : l.length ≤ 1152921504606846976) : Cd Try.prog 121 [.ln (l.map tI), .fn (.func f) fi cap] (i64 (ixF p l)) [] := by
 have h1 : (l.map tI).length = l.length := List.length_map _
 refine Cd.enter' Try.func121 rfl Try.ntmps121 rfl ?_
 repeat' (first | refine uA ?_ | refine uC ?_ | fail)
 refine AW.loopP (fun (q : Nat) => q ≤ l.length ∧ ∀ j, j < q → ∀ b, l[j]? = some b → p b = false) (fun (q : Nat) => (pu (pu (pu (pu (fun _ => .any) 0 (.ln (l.map tI))) 1 (.fn (.func f) fi cap)) 7 (i64 (l.map tI).length)) 8 (i64 q))) (fun (q : Nat) => []) (fun (q : Nat) => l.length - q) (0) ?_ ?_ ?_
 ·exact ⟨Nat.zero_le _, fun j hj => by omega⟩
 ·exact Wk.cq 0
 ·rintro q ⟨h2, h3⟩
  by_cases hq : q < l.length
  ·obtain ⟨a, ha⟩ : ∃ a, l[q]? = some a := ⟨_, List.getElem?_eq_getElem hq⟩
   have c1 := hg a (List.mem_of_getElem? ha)
   cases hp : p a
   ·rw [hp] at c1
    repeat' (first | ((with_reducible refine kAL ?_); (first | (refine kL 11 rfl ?_; first | refine uV (c1) ?_) | refine uA ?_)) | refine uC ?_ | fail)
    all_goals first | (exfalso; omega) | skip
    refine ⟨q + 1, ⟨by omega, fun j hj b hb => ?_⟩, by omega, ?_⟩
    ·by_cases e : j = q
     ·subst e; rw [ha] at hb; cases hb; exact hp
     ·exact h3 j (by omega) b hb
    ·exact Wk.cq 0
   ·rw [hp] at c1
    rw [ixF_at p l q a h3 ha hp]
    repeat' (first | ((with_reducible refine kAL ?_); (first | (refine kL 11 rfl ?_; first | refine uV (c1) ?_) | refine uA ?_)) | refine uC ?_ | fail)
    all_goals first | (exfalso; omega) | (exact Fin.q Try.results121 (.cons (.tmp rfl) .nil) [])
  ·rw [ixF_none p l fun j b hb => h3 j (by have := get_lt hb; omega) b hb]
   repeat' (first | refine uA ?_ | refine uC ?_ | fail)
   all_goals first | (exfalso; omega) | (exact Fin.q Try.results121 (.cons (.tmp rfl) .nil) [])
theorem conFI_c (f : FuncId) (fi cap : List AV) (p : Int → Bool) (l : List Int) (hg : ∀ c ∈ l, CV Try.prog (.fn (.func f) fi cap) [i64 c] (.t (.v (.bool (p c)))) []) (hup : upB (keepG 0) (.fn (.func f) fi cap) = .fn (.func f) fi cap) (hps : ∀ heap sel, Pass heap sel (.fn (.func f) fi cap) (.fn (.func f) fi cap))
  (hl : l.length ≤ 1152921504606846976) : Cd Try.prog 109 [.ln (l.map tI), .fn (.func f) fi cap] (bo (l.any p)) [] := by
 have c1 := idxFI_c f fi cap p l hg hup hl
 rw [← ixF_any]
 refine Cd.enter' Try.func109 rfl Try.ntmps109 rfl ?_
 by_cases h : 0 ≤ ixF p l
 ·rw [decide_eq_true h]
  repeat' (first | ((with_reducible refine kAL ?_); (first | (refine kL 3882 rfl ?_; first | refine uK (c1) ?_) | refine uA ?_)) | refine uC ?_ | fail)
  all_goals first | (exfalso; omega) | (exact Fin.q Try.results109 (.cons (.tmp rfl) .nil) [])
 ·rw [decide_eq_false h]
  repeat' (first | ((with_reducible refine kAL ?_); (first | (refine kL 3882 rfl ?_; first | refine uK (c1) ?_) | refine uA ?_)) | refine uC ?_ | fail)
  all_goals first | (exfalso; omega) | (exact Fin.q Try.results109 (.cons (.tmp rfl) .nil) [])
theorem idxFR_c (f : FuncId) (fi cap : List AV) (p : Rst → Bool) (l : List Rst) (hg : ∀ c ∈ l, CV Try.prog (.fn (.func f) fi cap) [.agg ((tR c).map .t)] (.t (.v (.bool (p c)))) []) (hup : upB (keepG 0) (.fn (.func f) fi cap) = .fn (.func f) fi cap)
  (hl : l.length ≤ 1152921504606846976) : Cd Try.prog 141 [.ln (l.map tR), .fn (.func f) fi cap] (i64 (ixF p l)) [] := by
 have h1 : (l.map tR).length = l.length := List.length_map _
 refine Cd.enter' Try.func141 rfl Try.ntmps141 rfl ?_
 repeat' (first | refine uA ?_ | refine uC ?_ | fail)
 refine AW.loopP (fun (q : Nat) => q ≤ l.length ∧ ∀ j, j < q → ∀ b, l[j]? = some b → p b = false) (fun (q : Nat) => (pu (pu (pu (pu (fun _ => .any) 0 (.ln (l.map tR))) 1 (.fn (.func f) fi cap)) 7 (i64 (l.map tR).length)) 8 (i64 q))) (fun (q : Nat) => []) (fun (q : Nat) => l.length - q) (0) ?_ ?_ ?_
 ·exact ⟨Nat.zero_le _, fun j hj => by omega⟩
 ·exact Wk.cq 0
 ·rintro q ⟨h2, h3⟩
  by_cases hq : q < l.length
  ·obtain ⟨a, ha⟩ : ∃ a, l[q]? = some a := ⟨_, List.getElem?_eq_getElem hq⟩
   have c1 := hg a (List.mem_of_getElem? ha)
   cases hp : p a
   ·rw [hp] at c1
    repeat' (first | ((with_reducible refine kAL ?_); (first | (refine kL 11 rfl ?_; first | refine uV (c1) ?_) | refine uA ?_)) | refine uC ?_ | fail)
    all_goals first | (exfalso; omega) | skip
    refine ⟨q + 1, ⟨by omega, fun j hj b hb => ?_⟩, by omega, ?_⟩
    ·by_cases e : j = q
     ·subst e; rw [ha] at hb; cases hb; exact hp
     ·exact h3 j (by omega) b hb
    ·exact Wk.cq 0
   ·rw [hp] at c1
    rw [ixF_at p l q a h3 ha hp]
    repeat' (first | ((with_reducible refine kAL ?_); (first | (refine kL 11 rfl ?_; first | refine uV (c1) ?_) | refine uA ?_)) | refine uC ?_ | fail)
    all_goals first | (exfalso; omega) | (exact Fin.q Try.results141 (.cons (.tmp rfl) .nil) [])
  ·rw [ixF_none p l fun j b hb => h3 j (by have := get_lt hb; omega) b hb]
   repeat' (first | refine uA ?_ | refine uC ?_ | fail)
   all_goals first | (exfalso; omega) | (exact Fin.q Try.results141 (.cons (.tmp rfl) .nil) [])
theorem conFR_c (f : FuncId) (fi cap : List AV) (p : Rst → Bool) (l : List Rst) (hg : ∀ c ∈ l, CV Try.prog (.fn (.func f) fi cap) [.agg ((tR c).map .t)] (.t (.v (.bool (p c)))) []) (hup : upB (keepG 0) (.fn (.func f) fi cap) = .fn (.func f) fi cap) (hps : ∀ heap sel, Pass heap sel (.fn (.func f) fi cap) (.fn (.func f) fi cap))
  (hl : l.length ≤ 1152921504606846976) : Cd Try.prog 135 [.ln (l.map tR), .fn (.func f) fi cap] (bo (l.any p)) [] := by
 have c1 := idxFR_c f fi cap p l hg hup hl
 rw [← ixF_any]
 refine Cd.enter' Try.func135 rfl Try.ntmps135 rfl ?_
 by_cases h : 0 ≤ ixF p l
 ·rw [decide_eq_true h]
  repeat' (first | ((with_reducible refine kAL ?_); (first | (refine kL 4522 rfl ?_; first | refine uK (c1) ?_) | refine uA ?_)) | refine uC ?_ | fail)
  all_goals first | (exfalso; omega) | (exact Fin.q Try.results135 (.cons (.tmp rfl) .nil) [])
 ·rw [decide_eq_false h]
  repeat' (first | ((with_reducible refine kAL ?_); (first | (refine kL 4522 rfl ?_; first | refine uK (c1) ?_) | refine uA ?_)) | refine uC ?_ | fail)
  all_goals first | (exfalso; omega) | (exact Fin.q Try.results135 (.cons (.tmp rfl) .nil) [])
theorem idxFC_c (f : FuncId) (fi cap : List AV) (p : DChan → Bool) (l : List DChan) (hg : ∀ c ∈ l, CV Try.prog (.fn (.func f) fi cap) [.agg ((tCh c).map .t)] (.t (.v (.bool (p c)))) []) (hup : upB (keepG 0) (.fn (.func f) fi cap) = .fn (.func f) fi cap)
  (hl : l.length ≤ 1152921504606846976) : Cd Try.prog 138 [.ln (l.map tCh), .fn (.func f) fi cap] (i64 (ixF p l)) [] := by
 have h1 : (l.map tCh).length = l.length := List.length_map _
 refine Cd.enter' Try.func138 rfl Try.ntmps138 rfl ?_
 repeat' (first | refine uA ?_ | refine uC ?_ | fail)
 refine AW.loopP (fun (q : Nat) => q ≤ l.length ∧ ∀ j, j < q → ∀ b, l[j]? = some b → p b = false) (fun (q : Nat) => (pu (pu (pu (pu (fun _ => .any) 0 (.ln (l.map tCh))) 1 (.fn (.func f) fi cap)) 7 (i64 (l.map tCh).length)) 8 (i64 q))) (fun (q : Nat) => []) (fun (q : Nat) => l.length - q) (0) ?_ ?_ ?_
 ·exact ⟨Nat.zero_le _, fun j hj => by omega⟩
 ·exact Wk.cq 0
 ·rintro q ⟨h2, h3⟩
  by_cases hq : q < l.length
  ·obtain ⟨a, ha⟩ : ∃ a, l[q]? = some a := ⟨_, List.getElem?_eq_getElem hq⟩
   have c1 := hg a (List.mem_of_getElem? ha)
   cases hp : p a
   ·rw [hp] at c1
    repeat' (first | ((with_reducible refine kAL ?_); (first | (refine kL 11 rfl ?_; first | refine uV (c1) ?_) | refine uA ?_)) | refine uC ?_ | fail)
    all_goals first | (exfalso; omega) | skip
    refine ⟨q + 1, ⟨by omega, fun j hj b hb => ?_⟩, by omega, ?_⟩
    ·by_cases e : j = q
     ·subst e; rw [ha] at hb; cases hb; exact hp
     ·exact h3 j (by omega) b hb
    ·exact Wk.cq 0
   ·rw [hp] at c1
    rw [ixF_at p l q a h3 ha hp]
    repeat' (first | ((with_reducible refine kAL ?_); (first | (refine kL 11 rfl ?_; first | refine uV (c1) ?_) | refine uA ?_)) | refine uC ?_ | fail)
    all_goals first | (exfalso; omega) | (exact Fin.q Try.results138 (.cons (.tmp rfl) .nil) [])
  ·rw [ixF_none p l fun j b hb => h3 j (by have := get_lt hb; omega) b hb]
   repeat' (first | refine uA ?_ | refine uC ?_ | fail)
   all_goals first | (exfalso; omega) | (exact Fin.q Try.results138 (.cons (.tmp rfl) .nil) [])
theorem conFC_c (f : FuncId) (fi cap : List AV) (p : DChan → Bool) (l : List DChan) (hg : ∀ c ∈ l, CV Try.prog (.fn (.func f) fi cap) [.agg ((tCh c).map .t)] (.t (.v (.bool (p c)))) []) (hup : upB (keepG 0) (.fn (.func f) fi cap) = .fn (.func f) fi cap) (hps : ∀ heap sel, Pass heap sel (.fn (.func f) fi cap) (.fn (.func f) fi cap))
  (hl : l.length ≤ 1152921504606846976) : Cd Try.prog 123 [.ln (l.map tCh), .fn (.func f) fi cap] (bo (l.any p)) [] := by
 have c1 := idxFC_c f fi cap p l hg hup hl
 rw [← ixF_any]
 refine Cd.enter' Try.func123 rfl Try.ntmps123 rfl ?_
 by_cases h : 0 ≤ ixF p l
 ·rw [decide_eq_true h]
  repeat' (first | ((with_reducible refine kAL ?_); (first | (refine kL 4426 rfl ?_; first | refine uK (c1) ?_) | refine uA ?_)) | refine uC ?_ | fail)
  all_goals first | (exfalso; omega) | (exact Fin.q Try.results123 (.cons (.tmp rfl) .nil) [])
 ·rw [decide_eq_false h]
  repeat' (first | ((with_reducible refine kAL ?_); (first | (refine kL 4426 rfl ?_; first | refine uK (c1) ?_) | refine uA ?_)) | refine uC ?_ | fail)
  all_goals first | (exfalso; omega) | (exact Fin.q Try.results123 (.cons (.tmp rfl) .nil) [])
theorem idxFW_c (f : FuncId) (fi cap : List AV) (p : DWait → Bool) (l : List DWait) (hg : ∀ c ∈ l, CV Try.prog (.fn (.func f) fi cap) [.agg ((tWt c).map .t)] (.t (.v (.bool (p c)))) []) (hup : upB (keepG 0) (.fn (.func f) fi cap) = .fn (.func f) fi cap)
  (hl : l.length ≤ 1152921504606846976) : Cd Try.prog 139 [.ln (l.map tWt), .fn (.func f) fi cap] (i64 (ixF p l)) [] := by
 have h1 : (l.map tWt).length = l.length := List.length_map _
 refine Cd.enter' Try.func139 rfl Try.ntmps139 rfl ?_
 repeat' (first | refine uA ?_ | refine uC ?_ | fail)
 refine AW.loopP (fun (q : Nat) => q ≤ l.length ∧ ∀ j, j < q → ∀ b, l[j]? = some b → p b = false) (fun (q : Nat) => (pu (pu (pu (pu (fun _ => .any) 0 (.ln (l.map tWt))) 1 (.fn (.func f) fi cap)) 7 (i64 (l.map tWt).length)) 8 (i64 q))) (fun (q : Nat) => []) (fun (q : Nat) => l.length - q) (0) ?_ ?_ ?_
 ·exact ⟨Nat.zero_le _, fun j hj => by omega⟩
 ·exact Wk.cq 0
 ·rintro q ⟨h2, h3⟩
  by_cases hq : q < l.length
  ·obtain ⟨a, ha⟩ : ∃ a, l[q]? = some a := ⟨_, List.getElem?_eq_getElem hq⟩
   have c1 := hg a (List.mem_of_getElem? ha)
   cases hp : p a
   ·rw [hp] at c1
    repeat' (first | ((with_reducible refine kAL ?_); (first | (refine kL 11 rfl ?_; first | refine uV (c1) ?_) | refine uA ?_)) | refine uC ?_ | fail)
    all_goals first | (exfalso; omega) | skip
    refine ⟨q + 1, ⟨by omega, fun j hj b hb => ?_⟩, by omega, ?_⟩
    ·by_cases e : j = q
     ·subst e; rw [ha] at hb; cases hb; exact hp
     ·exact h3 j (by omega) b hb
    ·exact Wk.cq 0
   ·rw [hp] at c1
    rw [ixF_at p l q a h3 ha hp]
    repeat' (first | ((with_reducible refine kAL ?_); (first | (refine kL 11 rfl ?_; first | refine uV (c1) ?_) | refine uA ?_)) | refine uC ?_ | fail)
    all_goals first | (exfalso; omega) | (exact Fin.q Try.results139 (.cons (.tmp rfl) .nil) [])
  ·rw [ixF_none p l fun j b hb => h3 j (by have := get_lt hb; omega) b hb]
   repeat' (first | refine uA ?_ | refine uC ?_ | fail)
   all_goals first | (exfalso; omega) | (exact Fin.q Try.results139 (.cons (.tmp rfl) .nil) [])
theorem conFW_c (f : FuncId) (fi cap : List AV) (p : DWait → Bool) (l : List DWait) (hg : ∀ c ∈ l, CV Try.prog (.fn (.func f) fi cap) [.agg ((tWt c).map .t)] (.t (.v (.bool (p c)))) []) (hup : upB (keepG 0) (.fn (.func f) fi cap) = .fn (.func f) fi cap) (hps : ∀ heap sel, Pass heap sel (.fn (.func f) fi cap) (.fn (.func f) fi cap))
  (hl : l.length ≤ 1152921504606846976) : Cd Try.prog 126 [.ln (l.map tWt), .fn (.func f) fi cap] (bo (l.any p)) [] := by
 have c1 := idxFW_c f fi cap p l hg hup hl
 rw [← ixF_any]
 refine Cd.enter' Try.func126 rfl Try.ntmps126 rfl ?_
 by_cases h : 0 ≤ ixF p l
 ·rw [decide_eq_true h]
  repeat' (first | ((with_reducible refine kAL ?_); (first | (refine kL 4458 rfl ?_; first | refine uK (c1) ?_) | refine uA ?_)) | refine uC ?_ | fail)
  all_goals first | (exfalso; omega) | (exact Fin.q Try.results126 (.cons (.tmp rfl) .nil) [])
 ·rw [decide_eq_false h]
  repeat' (first | ((with_reducible refine kAL ?_); (first | (refine kL 4458 rfl ?_; first | refine uK (c1) ?_) | refine uA ?_)) | refine uC ?_ | fail)
  all_goals first | (exfalso; omega) | (exact Fin.q Try.results126 (.cons (.tmp rfl) .nil) [])
end
section
abbrev u64 (x : Int) : AV := .t (.v (.int .u64 x))
abbrev aCf (c : DConf) : AV := .agg [i64 c.kind, i64 c.threads, i64 c.chans, i64 c.cap, i64 c.nodes, i64 c.retire, i64 c.patience, i64 c.tags, i64 c.seqs, i64 c.gens, .ln (c.start.map tI)]
abbrev aCh (x : DChan) : AV := .agg [i64 x.gen, i64 x.cap, bo x.used, bo x.closed, .ln (x.buf.map tI)]
abbrev aWt (w : DWait) : AV := .agg [bo w.on, i64 w.ticket, i64 w.seq, .ln (w.cases.map tCs)]
abbrev aHl (h : DHall) : AV := .agg [i64 h.ticket, .ln (h.chans.map tCh), .ln (h.waits.map tWt), .ln (h.done.map tR)]
abbrev aCl (x : DCells) : AV := .agg [i64 x.cap, .ln (x.list.map tI), .ln (x.done.map tR)]
abbrev aRq (q : DReq) : AV := .agg [i64 q.kind, i64 q.arg, i64 q.value, bo q.dflt, .ln (q.cases.map tCs)]
abbrev aR (r : Rst) : AV := .agg [i64 r.seq, i64 r.cas, i64 r.code, i64 r.value]
abbrev fCf (c : DConf) : AV := .agg [i64 c.kind, i64 c.threads, i64 c.chans, i64 c.cap, i64 c.nodes, i64 c.retire, i64 c.patience, i64 c.tags, i64 c.seqs, i64 c.gens, .t (.lst (c.start.map tI))]
end
section
attribute [local irreducible] AL AW RG Fin C Cd Cio thenQ blockQ retQ
set_option maxRecDepth 100000
def inI (n a b : Int) : Bool := decide (a ≤ n ∧ n ≤ b)
def ownC (c : DConf) : Bool :=
 if c.kind = 1 ∨ c.kind = 2 then inI c.cap 1 16 && decide (c.chans = 0) && decide (c.gens = 0) && decide (c.start = [])
 else if c.kind = 3 then inI c.chans 1 8 && inI c.cap 0 8 && inI c.gens 1 4095 && decide ((c.start.length : Int) ≤ c.chans) && !(c.start.any fun n => !inI n 0 c.cap)
 else false
def chkC (c : DConf) : Bool := inI c.threads 1 64 && inI c.nodes 1 64 && inI c.retire 1 32 && inI c.patience 0 4 && inI c.tags 1 4294967295 && inI c.seqs 1 1048575 && ownC c
theorem in_c (n a b : Int) : Cd Try.prog 97 [i64 n, i64 a, i64 b] (bo (inI n a b)) [] := by
 unfold inI
 by_cases h1 : a ≤ n <;> by_cases h2 : n ≤ b
 all_goals
  refine Cd.enter' Try.func97 rfl Try.ntmps97 rfl ?_
  repeat' (first | refine uA ?_ | refine uC ?_ | fail)
  all_goals first | (exfalso; omega) | (refine Fin.q Try.results97 (.cons (.tmp rfl) .nil) [] (hr := (.t ?_)))
  all_goals simp [h1, h2]
theorem inR_c (n a b : Int) : Cd Try.prog 75 [i64 n, i64 a, i64 b] (bo (inI n a b)) [] := by
 unfold inI
 by_cases h1 : a ≤ n <;> by_cases h2 : n ≤ b
 all_goals
  refine Cd.enter' Try.func75 rfl Try.ntmps75 rfl ?_
  repeat' (first | refine uA ?_ | refine uC ?_ | fail)
  all_goals first | (exfalso; omega) | (refine Fin.q Try.results75 (.cons (.tmp rfl) .nil) [] (hr := (.t ?_)))
  all_goals simp [h1, h2]
theorem own1_c (n : Int) (c : DConf) : Cd Try.prog 110 [i64 n, .lp [i64 c.kind, i64 c.threads, i64 c.chans, i64 c.cap, i64 c.nodes, i64 c.retire, i64 c.patience, i64 c.tags, i64 c.seqs, i64 c.gens, .ln (c.start.map tI)]] (bo (!inI n 0 c.cap)) [] := by
 have c1 := in_c n 0 c.cap
 generalize inI n 0 c.cap = b at c1
 cases b
 all_goals
  refine Cd.enter' Try.func110 rfl Try.ntmps110 rfl ?_
  repeat' (first | ((with_reducible refine kAL ?_); (first | (refine kL 3114 rfl ?_; first | refine uK (c1) ?_) | refine uA ?_)) | refine uC ?_ | fail)
  all_goals first | (exfalso; omega) | (exact Fin.q Try.results110 (.cons (.tmp rfl) .nil) [])
theorem own_c (c : DConf) (hs : c.start.length ≤ 1152921504606846976) : Cd Try.prog 98 [aCf c] (bo (ownC c)) [] := by
 have cF := conFI_c 110 [] [.lp [i64 c.kind, i64 c.threads, i64 c.chans, i64 c.cap, i64 c.nodes, i64 c.retire, i64 c.patience, i64 c.tags, i64 c.seqs, i64 c.gens, .ln (c.start.map tI)]] (fun n => !inI n 0 c.cap) c.start
  (fun n _ => ⟨_, _, [], [.lp [i64 c.kind, i64 c.threads, i64 c.chans, i64 c.cap, i64 c.nodes, i64 c.retire, i64 c.patience, i64 c.tags, i64 c.seqs, i64 c.gens, .ln (c.start.map tI)]], rfl, Try.func110, by kernel_rfl, by kernel_rfl, fun _ => .nil, fun _ => .cons (.lpL (by repeat (first | exact .nil | refine .cons ?_ ?_ | exact .t _ | exact .ln _))) .nil, own1_c n c⟩) rfl
  (fun _ _ => .fnL .nil (.cons (.lpL (by repeat (first | exact .nil | refine .cons ?_ ?_ | exact .t _ | exact .ln _))) .nil)) hs
 have h1 : (c.start.map tI).length = c.start.length := List.length_map _
 have c1 := in_c c.cap 1 16
 have c2 := in_c c.chans 1 8
 have c3 := in_c c.cap 0 8
 have c4 := in_c c.gens 1 4095
 unfold ownC
 generalize inI c.cap 1 16 = b1 at *
 generalize inI c.chans 1 8 = b2 at *
 generalize inI c.cap 0 8 = b3 at *
 generalize inI c.gens 1 4095 = b4 at *
 generalize (c.start.any fun n => !inI n 0 c.cap) = b5 at *
 have hst : c.start = [] ↔ c.start.length = 0 := List.length_eq_zero_iff.symm
 by_cases k : c.kind = 1 ∨ c.kind = 2
 ·rw [if_pos k]
  have cs : b1 = false ∨ (b1 = true ∧ c.chans ≠ 0) ∨ (b1 = true ∧ c.chans = 0 ∧ c.gens ≠ 0) ∨ (b1 = true ∧ c.chans = 0 ∧ c.gens = 0 ∧ c.start.length ≠ 0) ∨ (b1 = true ∧ c.chans = 0 ∧ c.gens = 0 ∧ c.start.length = 0) := by
   cases b1
   ·exact .inl rfl
   ·simp only [Bool.true_eq_false, true_and, false_or]; omega
  clear c2 c3 c4 cF
  rcases k with k | k
  all_goals
   rcases cs with rfl | ⟨rfl, e1⟩ | ⟨rfl, e1, e2⟩ | ⟨rfl, e1, e2, e3⟩ | ⟨rfl, e1, e2, e3⟩
   all_goals
    refine Cd.enter' Try.func98 rfl Try.ntmps98 rfl ?_
    repeat' (first | ((with_reducible refine kAL ?_); (first | (refine kL 3114 rfl ?_; first | refine uK (c1) ?_) | refine uA ?_)) | refine uC ?_ | fail)
    all_goals first | (exfalso; omega) | ((first | exact Fin.q Try.results98 (.cons (.tmp rfl) .nil) [] | refine Fin.q Try.results98 (.cons (.tmp rfl) .nil) [] (hr := (.t ?_))))
    all_goals first | (simp; done) | (simp [e1]; done) | (simp [e1, e2]; done) | (simp [e1, e2, hst, e3]; done) | skip
 ·rw [if_neg k]
  by_cases k3 : c.kind = 3
  ·rw [if_pos k3]
   have cs : b2 = false ∨ (b2 = true ∧ b3 = false) ∨ (b2 = true ∧ b3 = true ∧ b4 = false) ∨ (b2 = true ∧ b3 = true ∧ b4 = true ∧ ¬ (c.start.length : Int) ≤ c.chans) ∨ (b2 = true ∧ b3 = true ∧ b4 = true ∧ (c.start.length : Int) ≤ c.chans ∧ b5 = false) ∨ (b2 = true ∧ b3 = true ∧ b4 = true ∧ (c.start.length : Int) ≤ c.chans ∧ b5 = true) := by
    by_cases e : (c.start.length : Int) ≤ c.chans <;> cases b2 <;> cases b3 <;> cases b4 <;> cases b5 <;> simp [e]
   rcases cs with rfl | ⟨rfl, rfl⟩ | ⟨rfl, rfl, rfl⟩ | ⟨rfl, rfl, rfl, e1⟩ | ⟨rfl, rfl, rfl, e1, rfl⟩ | ⟨rfl, rfl, rfl, e1, rfl⟩
   all_goals
    refine Cd.enter' Try.func98 rfl Try.ntmps98 rfl ?_
    repeat' (first | ((with_reducible refine kAL ?_); (first | (refine kL 3114 rfl ?_; first | refine uK (c2) ?_ | refine uK (c3) ?_ | refine uK (c4) ?_) | (refine kL 3498 rfl ?_; first | refine uK (cF) ?_) | refine uA ?_)) | refine uC ?_ | fail)
    all_goals first | (exfalso; omega) | ((first | exact Fin.q Try.results98 (.cons (.tmp rfl) .nil) [] | refine Fin.q Try.results98 (.cons (.tmp rfl) .nil) [] (hr := (.t ?_))))
    all_goals first | (simp [e1]; done) | (simp; done) | skip
  ·rw [if_neg k3]
   refine Cd.enter' Try.func98 rfl Try.ntmps98 rfl ?_
   repeat' (first | refine uA ?_ | refine uC ?_ | fail)
   all_goals first | (exfalso; omega) | (exact Fin.q Try.results98 (.cons (.tmp rfl) .nil) [])
theorem check_c (c : DConf) (hs : c.start.length ≤ 1152921504606846976) : Cd Try.prog 72 [aCf c] (i64 (if chkC c then 0 else 1)) [] := by
 have c1 := in_c c.threads 1 64
 have c2 := in_c c.nodes 1 64
 have c3 := in_c c.retire 1 32
 have c4 := in_c c.patience 0 4
 have c5 := in_c c.tags 1 4294967295
 have c6 := in_c c.seqs 1 1048575
 have c7 := own_c c hs
 unfold chkC
 generalize inI c.threads 1 64 = b1 at *
 generalize inI c.nodes 1 64 = b2 at *
 generalize inI c.retire 1 32 = b3 at *
 generalize inI c.patience 0 4 = b4 at *
 generalize inI c.tags 1 4294967295 = b5 at *
 generalize inI c.seqs 1 1048575 = b6 at *
 generalize ownC c = b7 at *
 have cs : b1 = false ∨ (b1 = true ∧ b2 = false) ∨ (b1 = true ∧ b2 = true ∧ b3 = false) ∨ (b1 = true ∧ b2 = true ∧ b3 = true ∧ b4 = false) ∨ (b1 = true ∧ b2 = true ∧ b3 = true ∧ b4 = true ∧ b5 = false) ∨ (b1 = true ∧ b2 = true ∧ b3 = true ∧ b4 = true ∧ b5 = true ∧ b6 = false) ∨ (b1 = true ∧ b2 = true ∧ b3 = true ∧ b4 = true ∧ b5 = true ∧ b6 = true ∧ b7 = false) ∨ (b1 = true ∧ b2 = true ∧ b3 = true ∧ b4 = true ∧ b5 = true ∧ b6 = true ∧ b7 = true) := by
  cases b1 <;> cases b2 <;> cases b3 <;> cases b4 <;> cases b5 <;> cases b6 <;> cases b7 <;> simp
 rcases cs with rfl | ⟨rfl, rfl⟩ | ⟨rfl, rfl, rfl⟩ | ⟨rfl, rfl, rfl, rfl⟩ | ⟨rfl, rfl, rfl, rfl, rfl⟩ | ⟨rfl, rfl, rfl, rfl, rfl, rfl⟩ | ⟨rfl, rfl, rfl, rfl, rfl, rfl, rfl⟩ | ⟨rfl, rfl, rfl, rfl, rfl, rfl, rfl⟩
 all_goals
  refine Cd.enter' Try.func72 rfl Try.ntmps72 rfl ?_
  repeat' (first | ((with_reducible refine kAL ?_); (first | (refine kL 3114 rfl ?_; first | refine uK (c1) ?_ | refine uK (c2) ?_ | refine uK (c3) ?_ | refine uK (c4) ?_ | refine uK (c5) ?_ | refine uK (c6) ?_) | (refine kL 3146 rfl ?_; first | refine uK (c7) ?_) | refine uA ?_)) | refine uC ?_ | fail)
  all_goals first | (exfalso; omega) | (exact Bool.noConfusion hc) | (exact Fin.q Try.results72 (.cons (.tmp rfl) .nil) [])
  all_goals first | (simp; done) | skip
end
section
attribute [local irreducible] AL AW RG Fin C Cd Cio thenQ blockQ retQ
set_option maxRecDepth 100000
theorem res_c (a b : Rst) : Cd Try.prog 64 [.agg ((tR a).map .t), .agg ((tR b).map .t)] (.t (.v (.bool (decide (a = b))))) [] := by
 obtain ⟨a1, a2, a3, a4⟩ := a
 obtain ⟨b1, b2, b3, b4⟩ := b
 simp only [tR, List.map_cons, List.map_nil]
 refine Cd.enter' Try.func64 rfl Try.ntmps64 rfl ?_
 repeat' (first | ((with_reducible refine kAL ?_); (first | refine uA ?_ | refine uS 10 (fun hb => ?_) (fun hb => ?_) | refine uS 17 (fun hb => ?_) (fun hb => ?_) | refine uS 24 (fun hb => ?_) (fun hb => ?_))) | refine uC ?_ | fail)
 all_goals refine Fin.q Try.results64 (.cons (.tmp rfl) .nil) [] (hr := (.t ?_))
 all_goals simp [*]
theorem ints_c (a b : List Int) (ha : a.length ≤ 1152921504606846976) : Cd Try.prog 13 [.ln (a.map tI), .ln (b.map tI)] (.t (.v (.bool (decide (a = b))))) [] := by
 have h1 : (a.map tI).length = a.length := List.length_map _
 have h2 : (b.map tI).length = b.length := List.length_map _
 refine Cd.enter' Try.func13 rfl Try.ntmps13 rfl ?_
 repeat' (first | refine uA ?_ | refine uC ?_ | refine kcp rfl (fun hc => ?_) (fun hc => ?_) | fail)
 ·refine Fin.q Try.results13 (.cons (.tmp rfl) .nil) [] (hr := (.t ?_))
  have : a ≠ b := by rintro rfl; exact hc rfl
  simp [this]
 ·refine AW.loopP (fun (i : Nat) => ∀ j, j < i → a.getD j 0 = b.getD j 0) (fun (i : Nat) => (pu (pu (pu (pu (pu (fun _ => .any) 0 (.ln (a.map tI))) 1 (.ln (b.map tI))) 4 (.t (.v (.bool false)))) 12 (i64 (a.map tI).length)) 13 (i64 i))) (fun (i : Nat) => []) (fun (i : Nat) => a.length + 1 - i) (0) ?_ ?_ ?_
  ·intro j hj; omega
  ·exact Wk.cq 0
  ·intro i hi
   repeat' (first | refine uA ?_ | refine uR ?_ | refine uC ?_ | refine kcp rfl (fun hc => ?_) (fun hc => ?_) | refine AW.drawU (id := 6) mixed 0 qR ?_ | fail)
   ·refine Fin.q Try.results13 (.cons (.tmp rfl) .nil) [] (hr := (.t ?_))
    have : a ≠ b := by rintro rfl; exact hc rfl
    simp [this]
   ·refine ⟨i + 1, fun j hj => ?_, by omega, ?_⟩
    ·by_cases e : j = i
     ·subst e; exact Decidable.not_not.1 hc
     ·exact hi j (by omega)
    ·exact Wk.cq 0
   ·refine Fin.q Try.results13 (.cons (.tmp rfl) .nil) [] (hr := (.t ?_))
    have : a = b := all_eq (z := 0) (by omega) fun j hj => hi j (by omega)
    simp [this]
theorem results_c (a b : List Rst) (ha : a.length ≤ 1152921504606846976) : Cd Try.prog 16 [.ln (a.map tR), .ln (b.map tR)] (.t (.v (.bool (decide (a = b))))) [] := by
 have h1 : (a.map tR).length = a.length := List.length_map _
 have h2 : (b.map tR).length = b.length := List.length_map _
 refine Cd.enter' Try.func16 rfl Try.ntmps16 rfl ?_
 repeat' (first | refine uA ?_ | refine uC ?_ | refine kcp rfl (fun hc => ?_) (fun hc => ?_) | fail)
 ·refine Fin.q Try.results16 (.cons (.tmp rfl) .nil) [] (hr := (.t ?_))
  have : a ≠ b := by rintro rfl; exact hc rfl
  simp [this]
 ·refine AW.loopP (fun (i : Nat) => ∀ j, j < i → a.getD j ⟨0, 0, 0, 0⟩ = b.getD j ⟨0, 0, 0, 0⟩) (fun (i : Nat) => (pu (pu (pu (pu (pu (fun _ => .any) 0 (.ln (a.map tR))) 1 (.ln (b.map tR))) 4 (.t (.v (.bool false)))) 12 (i64 (a.map tR).length)) 13 (i64 i))) (fun (i : Nat) => []) (fun (i : Nat) => a.length + 1 - i) (0) ?_ ?_ ?_
  ·intro j hj; omega
  ·exact Wk.cq 0
  ·intro i hi
   repeat' (first | refine uA ?_ | ((with_reducible refine kRG ?_); (first | (refine kR 1126 rfl ?_; first | refine R_idx rfl rfl 35 _ _ rfl ud35 inf71 (by decide) (by exact .inl rfl) rfl (by omega) _ (by with_reducible exact Int.toNat_natCast _) (by exact map_get (get_D (x := ⟨0, 0, 0, 0⟩) (by omega))) rfl (cs' := [_, _, _, _]) rfl ?_) | (refine kR 2058 rfl ?_; first | refine uQ (res_c (a.getD i ⟨0, 0, 0, 0⟩) (b.getD i ⟨0, 0, 0, 0⟩)) 0 ?_) | refine uR ?_)) | refine uC ?_ | refine kcp rfl (fun hc => ?_) (fun hc => ?_) | refine kcn rfl (fun hc => ?_) (fun hc => ?_) | refine AW.drawU (id := 6) mixed 0 qR ?_ | fail)
   ·refine Fin.q Try.results16 (.cons (.tmp rfl) .nil) [] (hr := (.t ?_))
    have : a ≠ b := by rintro rfl; simp at hc
    simp [this]
   ·refine ⟨i + 1, fun j hj => ?_, by omega, ?_⟩
    ·by_cases e : j = i
     ·subst e; simpa using hc
     ·exact hi j (by omega)
    ·exact Wk.cq 0
   ·refine Fin.q Try.results16 (.cons (.tmp rfl) .nil) [] (hr := (.t ?_))
    have : a = b := all_eq (z := ⟨0, 0, 0, 0⟩) (by omega) fun j hj => hi j (by omega)
    simp [this]
end
section
theorem or_sum (s : Nat) {a b M : Int} (hM : (2 : Int) ^ s = M) (ha : 0 ≤ a) (hb : 0 ≤ b) (hs : b < M) (hm : a % M = 0) (hA : a < 18446744073709551616) (hB : b < 18446744073709551616) : bits .or .u64 a b = a + b := by
 subst hM
 rw [u64_or a b ha hA hb hB, nat_join s]
 ·omega
 ·have : ((a.toNat : Int)) % ((2 ^ s : Nat) : Int) = 0 := by rw [Int.toNat_of_nonneg ha]; simpa using hm
  exact_mod_cast this
 ·have : (b.toNat : Int) < ((2 ^ s : Nat) : Int) := by rw [Int.toNat_of_nonneg hb]; simpa using hs
  exact_mod_cast this
theorem or_sum' (s : Nat) {a b M : Int} (hM : (2 : Int) ^ s = M) (ha : 0 ≤ a) (hb : 0 ≤ b) (hs : a < M) (hm : b % M = 0) (hA : a < 18446744073709551616) (hB : b < 18446744073709551616) : bits .or .u64 a b = a + b := by
 have h := or_sum s hM hb ha hs hm hB hA
 rw [u64_or b a hb hB ha hA, Nat.or_comm] at h
 rw [u64_or a b ha hA hb hB, h]; omega
theorem and_lit (s : Nat) {x m M : Int} (hm : m + 1 = M) (hM : ((2 ^ s : Nat) : Int) = M) (h0 : 0 ≤ x) (h1 : x < 18446744073709551616) (h2 : m < 18446744073709551616) : bits .and .u64 x m = x % M := by
 subst hM
 obtain rfl : m = ((2 ^ s - 1 : Nat) : Int) := by
  have : 1 ≤ 2 ^ s := Nat.one_le_two_pow
  omega
 rw [u64_and x _ h0 h1 (by omega) h2, Int.toNat_natCast, Nat.and_two_pow_sub_one_eq_mod]
 rw [Int.natCast_emod, Int.toNat_of_nonneg h0]
end
end Go.Proofs.Ytnfbggpkiekpdaa
