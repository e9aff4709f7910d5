/- Joined: XTUI, XTSpans, XTPlain, XTStats. -/
import Derived.Test.YtnibnbcmnaflmaaKR32d
import Derived.Test.YtnibnbcmnaflmaaKR32g
import Derived.Test.YtnibnbcmnaflmaaKR32e
import Derived.Test.YtnibnbcmnaflmaaKR32c
namespace Go.Proofs.Ytnibnbcmnaflmaa
open Go.RowKit
set_option linter.unusedVariables false
set_option linter.unusedSimpArgs false
set_option linter.unnecessarySimpa false
set_option maxRecDepth 100000
set_option maxHeartbeats 64000000
section
@[reducible] def iu3 := Ud.mk ud3
@[reducible] def iu4 := Ud.mk ud4
@[reducible] def iu5 := Ud.mk ud5
@[reducible] def iu9 := Ud.mk ud9
@[reducible] def iu22 := Ud.mk ud22
@[reducible] def iu23 := Ud.mk ud23
@[reducible] def iu25 := Ud.mk ud25
@[reducible] def iu26 := Ud.mk ud26
@[reducible] def iu34 := Ud.mk ud34
@[reducible] def iu37 := Ud.mk ud37
@[reducible] def iu39 := Ud.mk ud39
@[reducible] def iu42 := Ud.mk ud42
@[reducible] def iu44 := Ud.mk ud44
@[reducible] def iu46 := Ud.mk ud46
@[reducible] def iu49 := Ud.mk ud49
@[reducible] def iu52 := Ud.mk ud52
@[reducible] def iu58 := Ud.mk ud58
@[reducible] def iu59 := Ud.mk ud59
@[reducible] def iu60 := Ud.mk ud60
@[reducible] def iu63 := Ud.mk ud63
@[reducible] def iu67 := Ud.mk ud67
@[reducible] def iu79 := Ud.mk ud79
@[reducible] def iu80 := Ud.mk ud80
@[reducible] def iu82 := Ud.mk ud82
@[reducible] def iu95 := Ud.mk ud95
@[reducible] def iu101 := Ud.mk ud101
@[reducible] def iu103 := Ud.mk ud103
@[reducible] def iu104 := Ud.mk ud104
@[reducible] def iu106 := Ud.mk ud106
@[reducible] def iu107 := Ud.mk ud107
@[reducible] def iu109 := Ud.mk ud109
@[reducible] def iu111 := Ud.mk ud111
@[reducible] def iu113 := Ud.mk ud113
@[reducible] def iu116 := Ud.mk ud116
@[reducible] def iu128 := Ud.mk ud128
@[reducible] def iu133 := Ud.mk ud133
@[reducible] def iu136 := Ud.mk ud136
@[reducible] def iu140 := Ud.mk ud140
@[reducible] def iu147 := Ud.mk ud147
@[reducible] def iu157 := Ud.mk ud157
@[reducible] def iu161 := Ud.mk ud161
attribute [instance] iu3 iu4 iu5 iu9 iu22 iu23 iu25 iu26 iu34 iu37 iu39 iu42 iu44 iu46 iu49 iu52 iu58 iu59 iu60 iu63 iu67 iu79 iu80 iu82 iu95 iu101 iu103 iu104 iu106 iu107 iu109 iu111 iu113 iu116 iu128 iu133 iu136 iu140 iu147 iu157 iu161
@[reducible] def ii3 := In.mk inf3
@[reducible] def ii4 := In.mk inf4
@[reducible] def ii22 := In.mk inf22
@[reducible] def ii23 := In.mk inf23
@[reducible] def ii25 := In.mk inf25
@[reducible] def ii26 := In.mk inf26
@[reducible] def ii34 := In.mk inf34
@[reducible] def ii37 := In.mk inf37
@[reducible] def ii39 := In.mk inf39
@[reducible] def ii42 := In.mk inf42
@[reducible] def ii44 := In.mk inf44
@[reducible] def ii46 := In.mk inf46
@[reducible] def ii49 := In.mk inf49
@[reducible] def ii52 := In.mk inf52
@[reducible] def ii58 := In.mk inf58
@[reducible] def ii59 := In.mk inf59
@[reducible] def ii60 := In.mk inf60
@[reducible] def ii63 := In.mk inf63
@[reducible] def ii67 := In.mk inf67
@[reducible] def ii79 := In.mk inf79
@[reducible] def ii80 := In.mk inf80
@[reducible] def ii82 := In.mk inf82
@[reducible] def ii95 := In.mk inf95
@[reducible] def ii101 := In.mk inf101
@[reducible] def ii103 := In.mk inf103
@[reducible] def ii104 := In.mk inf104
@[reducible] def ii106 := In.mk inf106
@[reducible] def ii107 := In.mk inf107
@[reducible] def ii109 := In.mk inf109
@[reducible] def ii111 := In.mk inf111
@[reducible] def ii113 := In.mk inf113
@[reducible] def ii116 := In.mk inf116
@[reducible] def ii128 := In.mk inf128
@[reducible] def ii133 := In.mk inf133
@[reducible] def ii136 := In.mk inf136
@[reducible] def ii147 := In.mk inf147
@[reducible] def ii157 := In.mk inf157
@[reducible] def ii161 := In.mk inf161
attribute [instance] ii3 ii4 ii22 ii23 ii25 ii26 ii34 ii37 ii39 ii42 ii44 ii46 ii49 ii52 ii58 ii59 ii60 ii63 ii67 ii79 ii80 ii82 ii95 ii101 ii103 ii104 ii106 ii107 ii109 ii111 ii113 ii116 ii128 ii133 ii136 ii147 ii157 ii161
instance : Zr Try.prog 3 [.t (.v (.int .i64 0))] := ⟨_, _, _, inf3, rfl, rfl⟩
instance : Zr Try.prog 22 [.nl] := ⟨_, _, _, inf22, rfl, rfl⟩
instance : Zr Try.prog 25 [.t (.v (.int .i64 0)), .nl, .nl] := ⟨_, _, _, inf25, rfl, rfl⟩
instance : Zr Try.prog 26 [.nl] := ⟨_, _, _, inf26, rfl, rfl⟩
instance : Zr Try.prog 34 [.t (.v (.bool false)), .t (.v (.bool false)), .t (.v (.bool false)), .t (.v (.int .i64 0)), .nl, .t (.v (.int .i64 0)), .t (.v (.int .i64 0))] := ⟨_, _, _, inf34, rfl, rfl⟩
instance : Zr Try.prog 39 [.t (.v (.int .i64 0)), .t (.v (.int .i64 0)), .t (.v (.int .i64 0)), .t (.v (.bool false)), .nl] := ⟨_, _, _, inf39, rfl, rfl⟩
instance : Zr Try.prog 44 [.t (.v (.int .i64 0)), .t (.v (.int .i64 0)), .t (.v (.int .i64 0)), .t (.v (.int .i64 0))] := ⟨_, _, _, inf44, rfl, rfl⟩
instance : Zr Try.prog 46 [.t (.v (.int .i64 0)), .t (.v (.int .i64 0)), .t (.v (.int .i64 0))] := ⟨_, _, _, inf46, rfl, rfl⟩
instance : Zr Try.prog 60 [.t (.v (.int .i64 0)), .t (.v (.int .i64 0)), .t (.v (.int .i64 0)), .t (.v (.int .i64 0)), .t (.v (.int .i64 0)), .t (.v (.int .i64 0))] := ⟨_, _, _, inf60, rfl, rfl⟩
instance : Zr Try.prog 63 [.t (.v (.int .i64 0)), .t (.v (.int .i64 0)), .t (.v (.int .i64 0)), .t (.v (.int .i64 0)), .t (.v (.int .i64 0)), .t (.v (.int .i64 0))] := ⟨_, _, _, inf63, rfl, rfl⟩
instance : Zr Try.prog 82 [.t (.v (.int .i64 0)), .t (.v (.int .u64 0)), .t (.v (.int .u64 0))] := ⟨_, _, _, inf82, rfl, rfl⟩
instance : Zr Try.prog 104 [.t (.v (.int .i64 0)), .t (.v (.int .u64 0)), .t (.v (.int .u64 0))] := ⟨_, _, _, inf104, rfl, rfl⟩
instance : Zr Try.prog 106 [.t (.v (.int .i64 0)), .t (.v (.int .i64 0)), .t (.v (.int .i64 0)), .t (.v (.int .i64 0)), .t (.v (.int .i64 0)), .t (.v (.int .i64 0)), .t (.v (.int .i64 0)), .t (.v (.bool false)), .nl, .t (.v (.int .i64 0)), .t (.v (.int .i64 0)), .t (.v (.int .i64 0)), .t (.v (.int .i64 0))] := ⟨_, _, _, inf106, rfl, rfl⟩
instance : Zr Try.prog 109 [.t (.v (.int .i64 0)), .t (.v (.int .i64 0)), .nl] := ⟨_, _, _, inf109, rfl, rfl⟩
instance : Zr Try.prog 111 [.t (.v (.int .i64 0)), .t (.v (.int .i64 0)), .t (.v (.int .i64 0)), .t (.v (.int .i64 0)), .t (.v (.int .i64 0)), .t (.v (.int .i64 0)), .t (.v (.bool false)), .nl] := ⟨_, _, _, inf111, rfl, rfl⟩
instance : Zr Try.prog 116 [.t (.v (.int .i64 0)), .t (.v (.int .i64 0)), .t (.v (.int .i64 0)), .t (.v (.int .i64 0))] := ⟨_, _, _, inf116, rfl, rfl⟩
instance : Zr Try.prog 136 [.t (.v (.int .i64 0)), .t (.v (.int .i64 0)), .t (.v (.int .i64 0)), .t (.v (.int .i64 0)), .t (.v (.int .i64 0))] := ⟨_, _, _, inf136, rfl, rfl⟩
instance : Zr Try.prog 157 [.t (.v (.int .u64 0))] := ⟨_, _, _, inf157, rfl, rfl⟩
instance : Bp Try.prog 25 [(0, 1), (1, 1), (2, 1)] := ⟨_, ud25, by kernel_rfl⟩
instance : Bp Try.prog 34 [(0, 1), (1, 1), (2, 1), (3, 1), (4, 1), (5, 1), (6, 1)] := ⟨_, ud34, by kernel_rfl⟩
instance : Bp Try.prog 39 [(0, 1), (1, 1), (2, 1), (3, 1), (4, 1)] := ⟨_, ud39, by kernel_rfl⟩
instance : Bp Try.prog 44 [(0, 1), (1, 1), (2, 1), (3, 1)] := ⟨_, ud44, by kernel_rfl⟩
instance : Bp Try.prog 46 [(0, 1), (1, 1), (2, 1)] := ⟨_, ud46, by kernel_rfl⟩
instance : Bp Try.prog 63 [(0, 1), (1, 1), (2, 1), (3, 1), (4, 1), (5, 1)] := ⟨_, ud63, by kernel_rfl⟩
instance : Bp Try.prog 82 [(0, 1), (1, 1), (2, 1)] := ⟨_, ud82, by kernel_rfl⟩
instance : Bp Try.prog 104 [(0, 1), (1, 1), (2, 1)] := ⟨_, ud104, by kernel_rfl⟩
instance : Bp Try.prog 106 [(0, 1), (1, 1), (2, 1), (3, 1), (4, 5), (9, 4)] := ⟨_, ud106, by kernel_rfl⟩
instance : Bp Try.prog 109 [(0, 1), (1, 1), (2, 1)] := ⟨_, ud109, by kernel_rfl⟩
instance : Bp Try.prog 111 [(0, 1), (1, 1), (2, 1), (3, 5)] := ⟨_, ud111, by kernel_rfl⟩
instance : Bp Try.prog 116 [(0, 1), (1, 1), (2, 1), (3, 1)] := ⟨_, ud116, by kernel_rfl⟩
instance : Ba Try.prog 136 1 [(0, 1), (1, 1), (2, 1), (3, 1), (4, 1)] := ⟨_, _, _, _, ud136, inf3, by kernel_rfl⟩
end
section
def lastK (l : List DSpan) (t : Int) : Nat → Int
 | 0 => -1
 | k + 1 => if (l.getD k default).thread = t then (k : Int) else lastK l t k
theorem lastK_lt (l : List DSpan) (t : Int) (k : Nat) : -1 ≤ lastK l t k ∧ lastK l t k < k := by
 induction k with
 | zero => simp [lastK]
 | succ k ih => unfold lastK; split <;> omega
def endAt (l : List DSpan) (t tm : Int) : List DSpan :=
 if 0 ≤ lastK l t l.length ∧ (l.getD (lastK l t l.length).toNat default).fin = 0 then l.set (lastK l t l.length).toNat ⟨(l.getD (lastK l t l.length).toNat default).thread, (l.getD (lastK l t l.length).toNat default).seq, (l.getD (lastK l t l.length).toNat default).beg, tm⟩ else l
theorem endAt_len (l : List DSpan) (t tm : Int) : (endAt l t tm).length = l.length := by unfold endAt; split <;> simp
def spansStep (out : List DSpan) (n : DNote) : List DSpan := if n.kind = 1 then out ++ [⟨n.thread, n.seq, n.time, 0⟩] else if n.kind = 3 then endAt out n.thread n.time else out
def spansOf (l : List DNote) : List DSpan := l.foldl spansStep []
theorem spansOf_next {l : List DNote} {q : Nat} {n : DNote} (h : l[q]? = some n) : spansOf (l.take (q + 1)) = spansStep (spansOf (l.take q)) n := by
 unfold spansOf
 rw [List.take_add_one, h, List.foldl_append]; rfl
theorem spansOf_len (l : List DNote) : (spansOf l).length ≤ l.length := by
 unfold spansOf
 suffices h : ∀ out : List DSpan, (l.foldl spansStep out).length ≤ out.length + l.length by simpa using h []
 induction l with
 | nil => intro out; simp
 | cons n l ih =>
  intro out
  have := ih (spansStep out n)
  have h2 : (spansStep out n).length ≤ out.length + 1 := by
   unfold spansStep; split
   ·simp
   ·split
    ·rw [endAt_len]; omega
    ·omega
  simp only [List.foldl_cons, List.length_cons]; omega
def ovl (a b : DSpan) : Bool := (decide (a.fin = 0) || decide (b.beg ≤ a.fin)) && (decide (b.fin = 0) || decide (a.beg ≤ b.fin))
def here (a b : DSpan) : Bool := decide (b.beg ≤ a.beg) && (decide (b.fin = 0) || decide (a.beg ≤ b.fin))
def cntK (l : List DSpan) (a : DSpan) : Nat → Int
 | 0 => 0
 | k + 1 => if here a (l.getD k default) then cntK l a k + 1 else cntK l a k
theorem cntK_le (l : List DSpan) (a : DSpan) (k : Nat) : 0 ≤ cntK l a k ∧ cntK l a k ≤ k := by
 induction k with
 | zero => simp [cntK]
 | succ k ih => unfold cntK; split <;> omega
def widK (l : List DSpan) : Nat → Int
 | 0 => 0
 | k + 1 => max (widK l k) (cntK l (l.getD k default) l.length)
def dur (a : DSpan) : Int := IntKind.i64.wrap (a.fin - a.beg)
def slowK (l : List DSpan) : Nat → Int
 | 0 => -1
 | k + 1 => if (l.getD k default).fin = 0 then slowK l k else if slowK l k < 0 ∨ dur (l.getD (slowK l k).toNat default) < dur (l.getD k default) then (k : Int) else slowK l k
theorem slowK_lt (l : List DSpan) (k : Nat) : -1 ≤ slowK l k ∧ slowK l k < k := by
  induction k with
  | zero => simp [slowK]
  | succ k ih => unfold slowK; split; · omega
                 split <;> omega
end
section
attribute [local irreducible] AL AW RG Fin C Cd Cio thenQ blockQ retQ
set_option maxRecDepth 100000
theorem ints_c (a b : List Int) (ha : a.length ≤ 1152921504606846976) : Cd Try.prog 14 [.ln (a.map tI), .ln (b.map tI)] (.t (.v (.bool (decide (a = b))))) [] := by
 have h1 : (a.map tI).length = a.length := List.length_map _
 have h2 : (b.map tI).length = b.length := List.length_map _
 refine Cd.enter' Try.func14 rfl Try.ntmps14 rfl ?_
 repeat' (first | refine uA ?_ | refine uC ?_ | refine kcp rfl (fun hc => ?_) (fun hc => ?_) | fail)
 ·refine Fin.q Try.results14 (.cons (.tmp rfl) .nil) [] (hr := (.t ?_))
  have : a ≠ b := by rintro rfl; exact hc rfl
  simp [this]
 ·refine AW.loopP (fun (i : Nat) => ∀ j, j < i → a.getD j 0 = b.getD j 0) (fun (i : Nat) => (pu (pu (pu (pu (pu (fun _ => .any) 0 (.ln (a.map tI))) 1 (.ln (b.map tI))) 4 (.t (.v (.bool false)))) 12 (i64 (a.map tI).length)) 13 (i64 i))) (fun (i : Nat) => []) (fun (i : Nat) => a.length + 1 - i) (0) ?_ ?_ ?_
  ·intro j hj; omega
  ·exact Wk.cq 0
  ·intro i hi
   repeat' (first | refine uA ?_ | refine uR ?_ | refine uC ?_ | refine kcp rfl (fun hc => ?_) (fun hc => ?_) | refine AW.drawU (id := 6) mixed 0 qR ?_ | fail)
   ·refine Fin.q Try.results14 (.cons (.tmp rfl) .nil) [] (hr := (.t ?_))
    have : a ≠ b := by rintro rfl; exact hc rfl
    simp [this]
   ·refine ⟨i + 1, fun j hj => ?_, by omega, ?_⟩
    ·by_cases e : j = i
     ·subst e; exact Decidable.not_not.1 hc
     ·exact hi j (by omega)
    ·exact Wk.cq 0
   ·refine Fin.q Try.results14 (.cons (.tmp rfl) .nil) [] (hr := (.t ?_))
    have : a = b := all_eq (z := 0) (by omega) fun j hj => hi j (by omega)
    simp [this]
end
section
attribute [local irreducible] AL AW RG Fin C Cd Cio thenQ blockQ retQ
set_option maxRecDepth 100000
theorem lastK_next {l : List DSpan} {t : Int} {n : Nat} {a : DSpan} (h : l[n]? = some a) : lastK l t (n + 1) = if a.thread = t then (n : Int) else lastK l t n := by
 rw [lastK, List.getD_eq_getElem?_getD, h]; rfl
theorem last_c (l : List DSpan) (t : Int) (hl : l.length ≤ 1152921504606846976) : Cd Try.prog 79 [.ln (l.map tSp), i64 t] (i64 (lastK l t l.length)) [] := by
 have h1 : (l.map tSp).length = l.length := List.length_map _
 refine Cd.enter' Try.func79 rfl Try.ntmps79 rfl ?_
 repeat' (first | refine uA ?_ | refine uC ?_ | refine kcp rfl (fun hc => ?_) (fun hc => ?_) | refine kcn rfl (fun hc => ?_) (fun hc => ?_) | refine kcb rfl (fun hc => ?_) (fun hc => ?_) | refine kcc rfl (fun hc => ?_) (fun hc => ?_) | fail)
 refine AW.loopP (fun (i : Int) => -1 ≤ i ∧ i < l.length ∧ lastK l t (i + 1).toNat = lastK l t l.length) (fun (i : Int) => (pu (pu (pu (fun _ => .any) 0 (.ln (l.map tSp))) 1 (i64 t)) 5 (i64 i))) (fun (i : Int) => []) (fun (i : Int) => (i + 1).toNat) (((l.map tSp).length : Int) - 1) ?_ ?_ ?_
 ·exact ⟨by omega, by omega, by rw [h1, show ((l.length : Int) - 1 + 1).toNat = l.length by omega]⟩
 ·exact Wk.cq 0
 ·rintro i ⟨h2, h3, h4⟩
  by_cases hi : 0 ≤ i
  ·obtain ⟨n, rfl⟩ : ∃ n : Nat, i = n := ⟨i.toNat, by omega⟩
   obtain ⟨a, ha⟩ : ∃ a, l[n]? = some a := ⟨_, List.getElem?_eq_getElem (by omega)⟩
   rw [show ((n : Int) + 1).toNat = n + 1 by omega, lastK_next ha] at h4
   repeat' (first | refine uA ?_ | refine uC ?_ | refine kcp rfl (fun hc => ?_) (fun hc => ?_) | refine kcn rfl (fun hc => ?_) (fun hc => ?_) | refine kcb rfl (fun hc => ?_) (fun hc => ?_) | refine kcc rfl (fun hc => ?_) (fun hc => ?_) | fail)
   all_goals first | (exfalso; omega) | skip
   ·rw [if_pos hc] at h4
    rw [← h4]
    (first | exact Fin.q Try.results79 (.cons (.tmp rfl) .nil) [] | refine Fin.q Try.results79 (.cons (.tmp rfl) .nil) [] (hr := (.t ?_)) | refine Fin.mkv (rs := _) Try.results79 (.cons (.tmp rfl) .nil) [] (by decide) rfl ?_ ?_ ?_ <;> repeat' (skip; first | exact .nil | refine .cons rfl ?_ ?_ | refine .cons ?_ ?_ | refine .row ?_ | refine .rset ?_ | refine .box ?_ | exact .gone | refine .aggL ?_ | refine .tupL ?_ | refine .old rfl ?_ | refine .new rfl rfl rfl ?_ | exact .nl | exact .optr rfl | exact .nptr rfl rfl rfl | refine .t ?_ | exact .any _ | rfl))
   ·rw [if_neg hc] at h4
    refine ⟨(n : Int) - 1, ⟨by omega, by omega, by rw [show ((n : Int) - 1 + 1).toNat = n by omega]; exact h4⟩, by omega, ?_⟩
    exact Wk.cq 0
  ·have e : i = -1 := by omega
   subst e
   have h5 : lastK l t l.length = -1 := h4.symm
   rw [h5]
   repeat' (first | refine uA ?_ | refine uC ?_ | refine kcp rfl (fun hc => ?_) (fun hc => ?_) | refine kcn rfl (fun hc => ?_) (fun hc => ?_) | refine kcb rfl (fun hc => ?_) (fun hc => ?_) | refine kcc rfl (fun hc => ?_) (fun hc => ?_) | fail)
   all_goals first | (exfalso; omega) | ((first | exact Fin.q Try.results79 (.cons (.tmp rfl) .nil) [] | refine Fin.q Try.results79 (.cons (.tmp rfl) .nil) [] (hr := (.t ?_)) | refine Fin.mkv (rs := _) Try.results79 (.cons (.tmp rfl) .nil) [] (by decide) rfl ?_ ?_ ?_ <;> repeat' (skip; first | exact .nil | refine .cons rfl ?_ ?_ | refine .cons ?_ ?_ | refine .row ?_ | refine .rset ?_ | refine .box ?_ | exact .gone | refine .aggL ?_ | refine .tupL ?_ | refine .old rfl ?_ | refine .new rfl rfl rfl ?_ | exact .nl | exact .optr rfl | exact .nptr rfl rfl rfl | refine .t ?_ | exact .any _ | rfl)))
theorem overlap_c (a b : DSpan) : Cd Try.prog 60 [.agg ((tSp a).map .t), .agg ((tSp b).map .t)] (bo (ovl a b)) [] := by
 obtain ⟨a1, a2, a3, a4⟩ := a
 obtain ⟨b1, b2, b3, b4⟩ := b
 by_cases p1 : a4 = 0 <;> by_cases p2 : b3 ≤ a4 <;> by_cases p3 : b4 = 0 <;> by_cases p4 : a3 ≤ b4
 all_goals
  refine Cd.enter' Try.func60 rfl Try.ntmps60 rfl ?_
  repeat' (first | ((with_reducible refine kAL ?_); (first | refine uA ?_ | refine uS 8 (fun hb => ?_) (fun hb => ?_) | refine uS 15 (fun hb => ?_) (fun hb => ?_) | refine uS 19 (fun hb => ?_) (fun hb => ?_))) | refine uC ?_ | refine kcp rfl (fun hc => ?_) (fun hc => ?_) | refine kcn rfl (fun hc => ?_) (fun hc => ?_) | refine kcb rfl (fun hc => ?_) (fun hc => ?_) | refine kcc rfl (fun hc => ?_) (fun hc => ?_) | fail)
  all_goals first | (exfalso; omega) | ((first | exact Fin.q Try.results60 (.cons (.tmp rfl) .nil) [] | refine Fin.q Try.results60 (.cons (.tmp rfl) .nil) [] (hr := (.t ?_)) | refine Fin.mkv (rs := _) Try.results60 (.cons (.tmp rfl) .nil) [] (by decide) rfl ?_ ?_ ?_ <;> repeat' (skip; first | exact .nil | refine .cons rfl ?_ ?_ | refine .cons ?_ ?_ | refine .row ?_ | refine .rset ?_ | refine .box ?_ | exact .gone | refine .aggL ?_ | refine .tupL ?_ | refine .old rfl ?_ | refine .new rfl rfl rfl ?_ | exact .nl | exact .optr rfl | exact .nptr rfl rfl rfl | refine .t ?_ | exact .any _ | rfl)))
  all_goals first | (simp [ovl, *]; done) | (simp [ovl, *]; omega)
structure SS where
 q : Nat
 k : Nat
 n : Nat
 O : List DSpan
theorem step1 {O : List DSpan} {a : DNote} (h : a.kind = 1) : spansStep O a = O ++ [⟨a.thread, a.seq, a.time, 0⟩] := if_pos h
theorem step3 {O : List DSpan} {a : DNote} (h : a.kind = 3) : spansStep O a = endAt O a.thread a.time := by unfold spansStep; rw [if_neg (by omega), if_pos h]
theorem step0 {O : List DSpan} {a : DNote} (h : ¬ a.kind = 1) (h' : ¬ a.kind = 3) : spansStep O a = O := by unfold spansStep; rw [if_neg h, if_neg h']
theorem endAt_no {O : List DSpan} {t tm : Int} (h : ¬ 0 ≤ lastK O t O.length) : endAt O t tm = O := if_neg fun k => h k.1
theorem endAt_at {O : List DSpan} {t tm : Int} {m : Nat} {b : DSpan} (h : lastK O t O.length = m) (hb : O[m]? = some b) : endAt O t tm = if b.fin = 0 then O.set m ⟨b.thread, b.seq, b.beg, tm⟩ else O := by
 unfold endAt
 rw [h, Int.toNat_natCast, List.getD_eq_getElem?_getD, hb]
 by_cases h0 : b.fin = 0
 ·rw [if_pos h0, if_pos ⟨by omega, h0⟩]; rfl
 ·rw [if_neg h0, if_neg fun k => h0 k.2]
theorem spans_c (l : List DNote) (hl : l.length ≤ 4398046510976) : Cd Try.prog 59 [.ln (l.map tNt)] (.sl 0 0 (spansOf l).length) [.row 0 116 4 ((spansOf l).map tSp)] := by
 have h1 : (l.map tNt).length = l.length := List.length_map _
 refine Cd.enter' Try.func59 rfl Try.ntmps59 rfl ?_
 repeat' (first | ((with_reducible refine kAL ?_); (first | (refine kL 12 rfl ?_; first | refine A_append_nlsub rfl rfl _ _ 113 rfl ud113 inf116 rfl rfl rfl rfl (by (try simp only [List.length_map, List.length_append, List.length_cons, List.length_nil]); omega) qB qB List.map_drop.symm (.push qL qN) ?_) | (refine kL 3631 rfl ?_; first | refine A_lit rfl rfl 113 1 _ rfl ud113 inf116 (.cons rfl .nil) (els := [[_, _, _, _]]) rfl (by first | exact qN) rfl (Nat.ne_of_beq_eq_false rfl) (Nat.le_of_ble_eq_true rfl) (Nat.le_of_ble_eq_true rfl) (.push qL qN) ?_) | refine uA ?_ | refine uS 35 (fun hb => ?_) (fun hb => ?_))) | refine uC ?_ | refine kcp rfl (fun hc => ?_) (fun hc => ?_) | refine kcn rfl (fun hc => ?_) (fun hc => ?_) | refine kcb rfl (fun hc => ?_) (fun hc => ?_) | refine kcc rfl (fun hc => ?_) (fun hc => ?_) | fail)
 refine AW.wk (Wk.own 3 rfl 116 4 (.push rfl rfl)) ?_
 refine AW.loopP (fun (x : SS) => x.q ≤ l.length ∧ x.O = spansOf (l.take x.q) ∧ x.n = x.O.length) (fun (x : SS) => (pu (pu (pu (pu (fun _ => .any) 7 (.ln (l.map tNt))) 8 (i64 (l.map tNt).length)) 9 (i64 x.q)) 3 (.sl 0 x.k x.n))) (fun (x : SS) => [.row x.k 116 4 (x.O.map tSp)]) (fun (x : SS) => l.length - x.q) (⟨0, 0, 0, []⟩) ?_ ?_ ?_
 ·exact ⟨Nat.zero_le _, by simp [spansOf], rfl⟩
 ·exact Wk.cq 1
 ·rintro ⟨q, k, n, O⟩ ⟨h2, h3, h4⟩
  dsimp only at h2 h3 h4 ⊢
  subst h4
  have h5 := spansOf_len (l.take q)
  rw [← h3, List.length_take] at h5
  have h6 : (O.map tSp).length = O.length := List.length_map _
  by_cases hq : q < l.length
  ·obtain ⟨a, ha⟩ : ∃ a, l[q]? = some a := ⟨_, List.getElem?_eq_getElem hq⟩
   have hn := spansOf_next ha
   rw [← h3] at hn
   have hL := lastK_lt O a.thread O.length
   have cL := last_c O a.thread (by omega)
   by_cases hL0 : 0 ≤ lastK O a.thread O.length
   ·obtain ⟨m, hm⟩ : ∃ m : Nat, lastK O a.thread O.length = m := ⟨(lastK O a.thread O.length).toNat, by omega⟩
    rw [hm] at cL
    obtain ⟨b, hb⟩ : ∃ b, O[m]? = some b := ⟨_, List.getElem?_eq_getElem (by omega)⟩
    have he : endAt O a.thread a.time = _ := endAt_at hm hb
    by_cases hb0 : b.fin = 0
    ·rw [if_pos hb0] at he
     repeat' (first | ((with_reducible refine kAL ?_); (first | (refine kL 12 rfl ?_; first | refine A_append rfl rfl _ _ 113 rfl ud113 inf116 rfl rfl rfl (by first | exact Nat.le_refl _ | (simp <;> fail) | (simp; omega)) (by first | exact .nl | exact .all rfl (by first | rfl | (simp <;> fail) | (simp; omega)) | exact .lst (by first | exact each_map (fun _ => rfl) | assumption | (simp <;> fail) | fail) | exact .ln (by first | exact each_map (fun _ => rfl) | assumption | (simp <;> fail) | fail) | exact .sl rfl (by first | exact Nat.le_refl _ | (simp <;> fail) | (simp; omega)) | exact .sub rfl (by first | exact Nat.le_refl _ | (simp <;> fail) | (simp; omega))) qB qB (by first | exact app_map (by first | rfl | omega | (simp <;> fail) | fail) | exact app_one (f := tSp) (x := ⟨b.thread, b.seq, b.beg, a.time⟩) (by first | rfl | omega | (simp <;> fail) | fail) | exact app_one (f := tSp) (x := ⟨_, _, _, _⟩) (by first | rfl | omega | (simp <;> fail) | fail) | exact qN) qN qS ?_ | refine A_append_nl rfl rfl _ _ 113 rfl ud113 inf116 rfl rfl (by first | exact .nl | exact .all rfl (by first | rfl | (simp <;> fail) | (simp; omega)) | exact .lst (by first | exact each_map (fun _ => rfl) | assumption | (simp <;> fail) | fail) | exact .ln (by first | exact each_map (fun _ => rfl) | assumption | (simp <;> fail) | fail) | exact .sl rfl (by first | exact Nat.le_refl _ | (simp <;> fail) | (simp; omega)) | exact .sub rfl (by first | exact Nat.le_refl _ | (simp <;> fail) | (simp; omega))) qB qB (by first | exact (rfl : _ = List.map tSp [⟨b.thread, b.seq, b.beg, a.time⟩]) | exact (rfl : _ = List.map tSp [⟨_, _, _, _⟩]) | exact qN) (.push qL qN) qS ?_ | refine A_append_nlsub rfl rfl _ _ 113 rfl ud113 inf116 rfl rfl rfl rfl (by (try simp only [List.length_map, List.length_append, List.length_cons, List.length_nil]); omega) qB qB List.map_drop.symm (.push qL qN) ?_) | (refine kL 3395 rfl ?_; first | refine A_store_rp rfl rfl 106 _ _ rfl inf106 (by decide) rfl rfl (by first | exact map_get (by assumption) | assumption) rfl rfl rfl (Nat.le_of_ble_eq_true rfl) (by first | exact map_set (f := tSp) (x := ⟨b.thread, b.seq, b.beg, a.time⟩) | exact map_set (f := tSp) (x := ⟨_, _, _, _⟩) | exact qN) qN ?_) | (refine kL 3631 rfl ?_; first | refine A_lit rfl rfl 113 1 _ rfl ud113 inf116 (.cons rfl .nil) (els := [[_, _, _, _]]) rfl (by first | exact (rfl : _ = List.map tSp [⟨b.thread, b.seq, b.beg, a.time⟩]) | exact (rfl : _ = List.map tSp [⟨_, _, _, _⟩]) | exact qN) rfl (Nat.ne_of_beq_eq_false rfl) (Nat.le_of_ble_eq_true rfl) (Nat.le_of_ble_eq_true rfl) (.push qL qN) ?_) | (refine kL 2538 rfl ?_; first | refine uK (cL) ?_) | (refine kL 99 rfl ?_; first | refine A_store_rp rfl rfl 3 _ _ rfl inf3 (by decide) rfl rfl (by first | exact map_get (by assumption) | assumption) rfl rfl rfl (Nat.le_of_ble_eq_true rfl) (by first | exact map_set (f := tSp) (x := ⟨b.thread, b.seq, b.beg, a.time⟩) | exact map_set (f := tSp) (x := ⟨_, _, _, _⟩) | exact qN) qN ?_) | refine uA ?_ | refine uS 35 (fun hb => ?_) (fun hb => ?_))) | refine uC ?_ | refine kcp rfl (fun hc => ?_) (fun hc => ?_) | refine kcn rfl (fun hc => ?_) (fun hc => ?_) | refine kcb rfl (fun hc => ?_) (fun hc => ?_) | refine kcc rfl (fun hc => ?_) (fun hc => ?_) | fail)
     all_goals first | (exfalso; omega) | skip
     all_goals first | (refine ⟨⟨q + 1, k + 1, O.length + 1, O ++ [⟨a.thread, a.seq, a.time, 0⟩]⟩, ⟨by dsimp only; omega, by dsimp only; rw [hn, step1 (by omega)], by simp⟩, by dsimp only; omega, ?_⟩; (exact Wk.cq 1); done) | (refine ⟨⟨q + 1, k, O.length, O.set m ⟨b.thread, b.seq, b.beg, a.time⟩⟩, ⟨by dsimp only; omega, by dsimp only; rw [hn, step3 (by omega), he], by simp⟩, by dsimp only; omega, ?_⟩; (exact Wk.cq 1); done) | (refine ⟨⟨q + 1, k, O.length, O⟩, ⟨by dsimp only; omega, by dsimp only; rw [hn, step0 (by omega) (by omega)], rfl⟩, by dsimp only; omega, ?_⟩; (exact Wk.cq 1); done)
    ·rw [if_neg hb0] at he
     repeat' (first | ((with_reducible refine kAL ?_); (first | (refine kL 12 rfl ?_; first | refine A_append rfl rfl _ _ 113 rfl ud113 inf116 rfl rfl rfl (by first | exact Nat.le_refl _ | (simp <;> fail) | (simp; omega)) (by first | exact .nl | exact .all rfl (by first | rfl | (simp <;> fail) | (simp; omega)) | exact .lst (by first | exact each_map (fun _ => rfl) | assumption | (simp <;> fail) | fail) | exact .ln (by first | exact each_map (fun _ => rfl) | assumption | (simp <;> fail) | fail) | exact .sl rfl (by first | exact Nat.le_refl _ | (simp <;> fail) | (simp; omega)) | exact .sub rfl (by first | exact Nat.le_refl _ | (simp <;> fail) | (simp; omega))) qB qB (by first | exact app_map (by first | rfl | omega | (simp <;> fail) | fail) | exact app_one (f := tSp) (x := ⟨_, _, _, _⟩) (by first | rfl | omega | (simp <;> fail) | fail) | exact qN) qN qS ?_ | refine A_append_nl rfl rfl _ _ 113 rfl ud113 inf116 rfl rfl (by first | exact .nl | exact .all rfl (by first | rfl | (simp <;> fail) | (simp; omega)) | exact .lst (by first | exact each_map (fun _ => rfl) | assumption | (simp <;> fail) | fail) | exact .ln (by first | exact each_map (fun _ => rfl) | assumption | (simp <;> fail) | fail) | exact .sl rfl (by first | exact Nat.le_refl _ | (simp <;> fail) | (simp; omega)) | exact .sub rfl (by first | exact Nat.le_refl _ | (simp <;> fail) | (simp; omega))) qB qB (by first | exact (rfl : _ = List.map tSp [⟨_, _, _, _⟩]) | exact qN) (.push qL qN) qS ?_ | refine A_append_nlsub rfl rfl _ _ 113 rfl ud113 inf116 rfl rfl rfl rfl (by (try simp only [List.length_map, List.length_append, List.length_cons, List.length_nil]); omega) qB qB List.map_drop.symm (.push qL qN) ?_) | (refine kL 3395 rfl ?_; first | refine A_store_rp rfl rfl 106 _ _ rfl inf106 (by decide) rfl rfl (by first | exact map_get (by assumption) | assumption) rfl rfl rfl (Nat.le_of_ble_eq_true rfl) (by first | exact map_set (f := tSp) (x := ⟨_, _, _, _⟩) | exact qN) qN ?_) | (refine kL 3631 rfl ?_; first | refine A_lit rfl rfl 113 1 _ rfl ud113 inf116 (.cons rfl .nil) (els := [[_, _, _, _]]) rfl (by first | exact (rfl : _ = List.map tSp [⟨_, _, _, _⟩]) | exact qN) rfl (Nat.ne_of_beq_eq_false rfl) (Nat.le_of_ble_eq_true rfl) (Nat.le_of_ble_eq_true rfl) (.push qL qN) ?_) | (refine kL 2538 rfl ?_; first | refine uK (cL) ?_) | (refine kL 99 rfl ?_; first | refine A_store_rp rfl rfl 3 _ _ rfl inf3 (by decide) rfl rfl (by first | exact map_get (by assumption) | assumption) rfl rfl rfl (Nat.le_of_ble_eq_true rfl) (by first | exact map_set (f := tSp) (x := ⟨_, _, _, _⟩) | exact qN) qN ?_) | refine uA ?_ | refine uS 35 (fun hb => ?_) (fun hb => ?_))) | refine uC ?_ | refine kcp rfl (fun hc => ?_) (fun hc => ?_) | refine kcn rfl (fun hc => ?_) (fun hc => ?_) | refine kcb rfl (fun hc => ?_) (fun hc => ?_) | refine kcc rfl (fun hc => ?_) (fun hc => ?_) | fail)
     all_goals first | (exfalso; omega) | skip
     all_goals first | (refine ⟨⟨q + 1, k + 1, O.length + 1, O ++ [⟨a.thread, a.seq, a.time, 0⟩]⟩, ⟨by dsimp only; omega, by dsimp only; rw [hn, step1 (by omega)], by simp⟩, by dsimp only; omega, ?_⟩; (exact Wk.cq 1); done) | (refine ⟨⟨q + 1, k, O.length, O⟩, ⟨by dsimp only; omega, by dsimp only; rw [hn, step3 (by omega), he], rfl⟩, by dsimp only; omega, ?_⟩; (exact Wk.cq 1); done) | (refine ⟨⟨q + 1, k, O.length, O⟩, ⟨by dsimp only; omega, by dsimp only; rw [hn, step0 (by omega) (by omega)], rfl⟩, by dsimp only; omega, ?_⟩; (exact Wk.cq 1); done)
   ·have he : endAt O a.thread a.time = O := endAt_no hL0
    obtain ⟨z, hz⟩ : ∃ z, lastK O a.thread O.length = z := ⟨_, rfl⟩
    rw [hz] at cL hL0
    repeat' (first | ((with_reducible refine kAL ?_); (first | (refine kL 12 rfl ?_; first | refine A_append rfl rfl _ _ 113 rfl ud113 inf116 rfl rfl rfl (by first | exact Nat.le_refl _ | (simp <;> fail) | (simp; omega)) (by first | exact .nl | exact .all rfl (by first | rfl | (simp <;> fail) | (simp; omega)) | exact .lst (by first | exact each_map (fun _ => rfl) | assumption | (simp <;> fail) | fail) | exact .ln (by first | exact each_map (fun _ => rfl) | assumption | (simp <;> fail) | fail) | exact .sl rfl (by first | exact Nat.le_refl _ | (simp <;> fail) | (simp; omega)) | exact .sub rfl (by first | exact Nat.le_refl _ | (simp <;> fail) | (simp; omega))) qB qB (by first | exact app_map (by first | rfl | omega | (simp <;> fail) | fail) | exact app_one (f := tSp) (x := ⟨_, _, _, _⟩) (by first | rfl | omega | (simp <;> fail) | fail) | exact qN) qN qS ?_ | refine A_append_nl rfl rfl _ _ 113 rfl ud113 inf116 rfl rfl (by first | exact .nl | exact .all rfl (by first | rfl | (simp <;> fail) | (simp; omega)) | exact .lst (by first | exact each_map (fun _ => rfl) | assumption | (simp <;> fail) | fail) | exact .ln (by first | exact each_map (fun _ => rfl) | assumption | (simp <;> fail) | fail) | exact .sl rfl (by first | exact Nat.le_refl _ | (simp <;> fail) | (simp; omega)) | exact .sub rfl (by first | exact Nat.le_refl _ | (simp <;> fail) | (simp; omega))) qB qB (by first | exact (rfl : _ = List.map tSp [⟨_, _, _, _⟩]) | exact qN) (.push qL qN) qS ?_ | refine A_append_nlsub rfl rfl _ _ 113 rfl ud113 inf116 rfl rfl rfl rfl (by (try simp only [List.length_map, List.length_append, List.length_cons, List.length_nil]); omega) qB qB List.map_drop.symm (.push qL qN) ?_) | (refine kL 3395 rfl ?_; first | refine A_store_rp rfl rfl 106 _ _ rfl inf106 (by decide) rfl rfl (by first | exact map_get (by assumption) | assumption) rfl rfl rfl (Nat.le_of_ble_eq_true rfl) (by first | exact map_set (f := tSp) (x := ⟨_, _, _, _⟩) | exact qN) qN ?_) | (refine kL 3631 rfl ?_; first | refine A_lit rfl rfl 113 1 _ rfl ud113 inf116 (.cons rfl .nil) (els := [[_, _, _, _]]) rfl (by first | exact (rfl : _ = List.map tSp [⟨_, _, _, _⟩]) | exact qN) rfl (Nat.ne_of_beq_eq_false rfl) (Nat.le_of_ble_eq_true rfl) (Nat.le_of_ble_eq_true rfl) (.push qL qN) ?_) | (refine kL 2538 rfl ?_; first | refine uK (cL) ?_) | (refine kL 99 rfl ?_; first | refine A_store_rp rfl rfl 3 _ _ rfl inf3 (by decide) rfl rfl (by first | exact map_get (by assumption) | assumption) rfl rfl rfl (Nat.le_of_ble_eq_true rfl) (by first | exact map_set (f := tSp) (x := ⟨_, _, _, _⟩) | exact qN) qN ?_) | refine uA ?_ | refine uS 35 (fun hb => ?_) (fun hb => ?_))) | refine uC ?_ | refine kcp rfl (fun hc => ?_) (fun hc => ?_) | refine kcn rfl (fun hc => ?_) (fun hc => ?_) | refine kcb rfl (fun hc => ?_) (fun hc => ?_) | refine kcc rfl (fun hc => ?_) (fun hc => ?_) | fail)
    all_goals first | (exfalso; omega) | skip
    all_goals first | (refine ⟨⟨q + 1, k + 1, O.length + 1, O ++ [⟨a.thread, a.seq, a.time, 0⟩]⟩, ⟨by dsimp only; omega, by dsimp only; rw [hn, step1 (by omega)], by simp⟩, by dsimp only; omega, ?_⟩; (exact Wk.cq 1); done) | (refine ⟨⟨q + 1, k, O.length, O⟩, ⟨by dsimp only; omega, by dsimp only; rw [hn, step3 (by omega), he], rfl⟩, by dsimp only; omega, ?_⟩; (exact Wk.cq 1); done) | (refine ⟨⟨q + 1, k, O.length, O⟩, ⟨by dsimp only; omega, by dsimp only; rw [hn, step0 (by omega) (by omega)], rfl⟩, by dsimp only; omega, ?_⟩; (exact Wk.cq 1); done)
  ·have e : q = l.length := by omega
   subst e
   rw [List.take_length] at h3
   subst h3
   repeat' (first | ((with_reducible refine kAL ?_); (first | (refine kL 12 rfl ?_; first | refine A_append_nlsub rfl rfl _ _ 113 rfl ud113 inf116 rfl rfl rfl rfl (by (try simp only [List.length_map, List.length_append, List.length_cons, List.length_nil]); omega) qB qB List.map_drop.symm (.push qL qN) ?_) | (refine kL 3631 rfl ?_; first | refine A_lit rfl rfl 113 1 _ rfl ud113 inf116 (.cons rfl .nil) (els := [[_, _, _, _]]) rfl (by first | exact qN) rfl (Nat.ne_of_beq_eq_false rfl) (Nat.le_of_ble_eq_true rfl) (Nat.le_of_ble_eq_true rfl) (.push qL qN) ?_) | refine uA ?_ | refine uS 35 (fun hb => ?_) (fun hb => ?_))) | refine uC ?_ | refine kcp rfl (fun hc => ?_) (fun hc => ?_) | refine kcn rfl (fun hc => ?_) (fun hc => ?_) | refine kcb rfl (fun hc => ?_) (fun hc => ?_) | refine kcc rfl (fun hc => ?_) (fun hc => ?_) | fail)
   all_goals first | (exfalso; omega) | ((first | exact Fin.q Try.results59 (.cons (.tmp rfl) .nil) [0] | refine Fin.q Try.results59 (.cons (.tmp rfl) .nil) [0] (hr := (.t ?_)) | refine Fin.mkv (rs := _) Try.results59 (.cons (.tmp rfl) .nil) [0] (by decide) rfl ?_ ?_ ?_ <;> repeat' (skip; first | exact .nil | refine .cons rfl ?_ ?_ | refine .cons ?_ ?_ | refine .row ?_ | refine .rset ?_ | refine .box ?_ | exact .gone | refine .aggL ?_ | refine .tupL ?_ | refine .old rfl ?_ | refine .new rfl rfl rfl ?_ | exact .nl | exact .optr rfl | exact .nptr rfl rfl rfl | refine .t ?_ | exact .any _ | rfl)))
theorem cntK_next {l : List DSpan} {a b : DSpan} {k : Nat} (h : l[k]? = some b) : cntK l a (k + 1) = if here a b then cntK l a k + 1 else cntK l a k := by
 rw [cntK, List.getD_eq_getElem?_getD, h]; rfl
theorem widK_next {l : List DSpan} {a : DSpan} {k : Nat} (h : l[k]? = some a) : widK l (k + 1) = max (widK l k) (cntK l a l.length) := by
 rw [widK, List.getD_eq_getElem?_getD, h]; rfl
theorem width_c (l : List DSpan) (hl : l.length ≤ 1152921504606846976) : Cd Try.prog 61 [.ln (l.map tSp)] (i64 (widK l l.length)) [] := by
 have h1 : (l.map tSp).length = l.length := List.length_map _
 refine Cd.enter' Try.func61 rfl Try.ntmps61 rfl ?_
 repeat' (first | ((with_reducible refine kAL ?_); (first | refine uA ?_ | refine uS 26 (fun hb => ?_) (fun hb => ?_) | refine uS 30 (fun hb => ?_) (fun hb => ?_))) | refine uC ?_ | refine kcp rfl (fun hc => ?_) (fun hc => ?_) | refine kcn rfl (fun hc => ?_) (fun hc => ?_) | refine kcb rfl (fun hc => ?_) (fun hc => ?_) | refine kcc rfl (fun hc => ?_) (fun hc => ?_) | fail)
 refine AW.loopP (fun (x : Nat × Int) => x.1 ≤ l.length ∧ x.2 = widK l x.1) (fun (x : Nat × Int) => (pu (pu (pu (pu (pu (fun _ => .any) 0 (.ln (l.map tSp))) 9 (.ln (l.map tSp))) 10 (i64 (l.map tSp).length)) 11 (i64 x.1)) 3 (i64 x.2))) (fun (x : Nat × Int) => []) (fun (x : Nat × Int) => l.length - x.1) ((0, 0)) ?_ ?_ ?_
 ·exact ⟨Nat.zero_le _, rfl⟩
 ·exact Wk.cq 0
 ·rintro ⟨q, n⟩ ⟨h2, h3⟩
  dsimp only at h2 h3 ⊢
  by_cases hq : q < l.length
  ·obtain ⟨a, ha⟩ : ∃ a, l[q]? = some a := ⟨_, List.getElem?_eq_getElem hq⟩
   have hn := widK_next ha
   rw [← h3] at hn
   obtain ⟨a1, a2, a3, a4⟩ := a
   repeat' (first | ((with_reducible refine kAL ?_); (first | refine uA ?_ | refine uS 26 (fun hb => ?_) (fun hb => ?_) | refine uS 30 (fun hb => ?_) (fun hb => ?_))) | refine uC ?_ | refine kcp rfl (fun hc => ?_) (fun hc => ?_) | refine kcn rfl (fun hc => ?_) (fun hc => ?_) | refine kcb rfl (fun hc => ?_) (fun hc => ?_) | refine kcc rfl (fun hc => ?_) (fun hc => ?_) | fail)
   all_goals first | (exfalso; omega) | skip
   refine AW.loopP (fun (y : Nat × Int) => y.1 ≤ l.length ∧ y.2 = cntK l ⟨a1, a2, a3, a4⟩ y.1) (fun (y : Nat × Int) => (pu (pu (pu (pu (pu (pu (pu (pu (pu (pu (fun _ => .any) 0 (.ln (l.map tSp))) 9 (.ln (l.map tSp))) 10 (i64 (l.map tSp).length)) 11 (i64 q)) 3 (i64 n)) 5 (.ptr 0 0)) 6 (i64 y.2)) 15 (.ln (l.map tSp))) 16 (i64 (l.map tSp).length)) 17 (i64 y.1))) (fun (y : Nat × Int) => [.box 116 [i64 a1, i64 a2, i64 a3, i64 a4]]) (fun (y : Nat × Int) => l.length - y.1) ((0, 0)) ?_ ?_ ?_
   ·exact ⟨Nat.zero_le _, rfl⟩
   ·exact Wk.cq 1
   ·rintro ⟨j, c⟩ ⟨h4, h5⟩
    dsimp only at h4 h5 ⊢
    have h6 := cntK_le l ⟨a1, a2, a3, a4⟩ j
    rw [← h5] at h6
    by_cases hj : j < l.length
    ·obtain ⟨⟨b1, b2, b3, b4⟩, hb⟩ : ∃ b, l[j]? = some b := ⟨_, List.getElem?_eq_getElem hj⟩
     have hk := cntK_next (a := ⟨a1, a2, a3, a4⟩) hb
     rw [← h5] at hk
     by_cases p1 : b3 ≤ a3 <;> by_cases p2 : b4 = 0 <;> by_cases p3 : a3 ≤ b4
     all_goals
      repeat' (first | ((with_reducible refine kAL ?_); (first | refine uA ?_ | refine uS 26 (fun hb => ?_) (fun hb => ?_) | refine uS 30 (fun hb => ?_) (fun hb => ?_))) | refine uC ?_ | refine kcp rfl (fun hc => ?_) (fun hc => ?_) | refine kcn rfl (fun hc => ?_) (fun hc => ?_) | refine kcb rfl (fun hc => ?_) (fun hc => ?_) | refine kcc rfl (fun hc => ?_) (fun hc => ?_) | fail)
      all_goals first | (exfalso; omega) | (refine ⟨(j + 1, c + 1), ⟨by dsimp only; omega, by dsimp only; rw [hk, if_pos (by simp [here, *])]⟩, by dsimp only; omega, ?_⟩; (exact Wk.cq 1); done) | (refine ⟨(j + 1, c), ⟨by dsimp only; omega, by dsimp only; rw [hk, if_neg (by simp [here, *])]⟩, by dsimp only; omega, ?_⟩; (exact Wk.cq 1); done)
    ·have e : j = l.length := by omega
     subst e
     rw [← h5] at hn
     repeat' (first | ((with_reducible refine kAL ?_); (first | refine uA ?_ | refine uS 26 (fun hb => ?_) (fun hb => ?_) | refine uS 30 (fun hb => ?_) (fun hb => ?_))) | refine uC ?_ | refine kcp rfl (fun hc => ?_) (fun hc => ?_) | refine kcn rfl (fun hc => ?_) (fun hc => ?_) | refine kcb rfl (fun hc => ?_) (fun hc => ?_) | refine kcc rfl (fun hc => ?_) (fun hc => ?_) | fail)
     all_goals first | (exfalso; omega) | skip
     refine ⟨(q + 1, max n c), ⟨by dsimp only; omega, by dsimp only; rw [hn]⟩, by dsimp only; omega, ?_⟩
     exact Wk.cq 0
  ·have e : q = l.length := by omega
   subst e
   subst h3
   repeat' (first | ((with_reducible refine kAL ?_); (first | refine uA ?_ | refine uS 26 (fun hb => ?_) (fun hb => ?_) | refine uS 30 (fun hb => ?_) (fun hb => ?_))) | refine uC ?_ | refine kcp rfl (fun hc => ?_) (fun hc => ?_) | refine kcn rfl (fun hc => ?_) (fun hc => ?_) | refine kcb rfl (fun hc => ?_) (fun hc => ?_) | refine kcc rfl (fun hc => ?_) (fun hc => ?_) | fail)
   all_goals first | (exfalso; omega) | ((first | exact Fin.q Try.results61 (.cons (.tmp rfl) .nil) [] | refine Fin.q Try.results61 (.cons (.tmp rfl) .nil) [] (hr := (.t ?_)) | refine Fin.mkv (rs := _) Try.results61 (.cons (.tmp rfl) .nil) [] (by decide) rfl ?_ ?_ ?_ <;> repeat' (skip; first | exact .nil | refine .cons rfl ?_ ?_ | refine .cons ?_ ?_ | refine .row ?_ | refine .rset ?_ | refine .box ?_ | exact .gone | refine .aggL ?_ | refine .tupL ?_ | refine .old rfl ?_ | refine .new rfl rfl rfl ?_ | exact .nl | exact .optr rfl | exact .nptr rfl rfl rfl | refine .t ?_ | exact .any _ | rfl)))
end
end Go.Proofs.Ytnibnbcmnaflmaa
