/- Joined: XTUI, XTChg, XTDiffP. -/
import Derived.Test.YtnibnbcmnaflmaaKDd
import Derived.Test.YtnibnbcmnaflmaaKDg
import Derived.Test.YtnibnbcmnaflmaaKDe
namespace Go.Proofs.Ytnibnbcmnaflmaa
open Go.RowKit
set_option linter.unusedVariables false
set_option linter.unusedSimpArgs false
set_option linter.unnecessarySimpa false
set_option maxRecDepth 100000
set_option maxHeartbeats 64000000
section
@[reducible] def iu3 := Ud.mk ud3
@[reducible] def iu4 := Ud.mk ud4
@[reducible] def iu5 := Ud.mk ud5
@[reducible] def iu9 := Ud.mk ud9
@[reducible] def iu22 := Ud.mk ud22
@[reducible] def iu23 := Ud.mk ud23
@[reducible] def iu25 := Ud.mk ud25
@[reducible] def iu26 := Ud.mk ud26
@[reducible] def iu34 := Ud.mk ud34
@[reducible] def iu37 := Ud.mk ud37
@[reducible] def iu39 := Ud.mk ud39
@[reducible] def iu42 := Ud.mk ud42
@[reducible] def iu44 := Ud.mk ud44
@[reducible] def iu46 := Ud.mk ud46
@[reducible] def iu49 := Ud.mk ud49
@[reducible] def iu52 := Ud.mk ud52
@[reducible] def iu58 := Ud.mk ud58
@[reducible] def iu59 := Ud.mk ud59
@[reducible] def iu60 := Ud.mk ud60
@[reducible] def iu63 := Ud.mk ud63
@[reducible] def iu67 := Ud.mk ud67
@[reducible] def iu79 := Ud.mk ud79
@[reducible] def iu80 := Ud.mk ud80
@[reducible] def iu82 := Ud.mk ud82
@[reducible] def iu95 := Ud.mk ud95
@[reducible] def iu97 := Ud.mk ud97
@[reducible] def iu101 := Ud.mk ud101
@[reducible] def iu103 := Ud.mk ud103
@[reducible] def iu104 := Ud.mk ud104
@[reducible] def iu106 := Ud.mk ud106
@[reducible] def iu107 := Ud.mk ud107
@[reducible] def iu109 := Ud.mk ud109
@[reducible] def iu111 := Ud.mk ud111
@[reducible] def iu113 := Ud.mk ud113
@[reducible] def iu116 := Ud.mk ud116
@[reducible] def iu128 := Ud.mk ud128
@[reducible] def iu133 := Ud.mk ud133
@[reducible] def iu136 := Ud.mk ud136
@[reducible] def iu140 := Ud.mk ud140
@[reducible] def iu147 := Ud.mk ud147
@[reducible] def iu157 := Ud.mk ud157
@[reducible] def iu161 := Ud.mk ud161
attribute [instance] iu3 iu4 iu5 iu9 iu22 iu23 iu25 iu26 iu34 iu37 iu39 iu42 iu44 iu46 iu49 iu52 iu58 iu59 iu60 iu63 iu67 iu79 iu80 iu82 iu95 iu97 iu101 iu103 iu104 iu106 iu107 iu109 iu111 iu113 iu116 iu128 iu133 iu136 iu140 iu147 iu157 iu161
@[reducible] def ii3 := In.mk inf3
@[reducible] def ii4 := In.mk inf4
@[reducible] def ii22 := In.mk inf22
@[reducible] def ii23 := In.mk inf23
@[reducible] def ii25 := In.mk inf25
@[reducible] def ii26 := In.mk inf26
@[reducible] def ii34 := In.mk inf34
@[reducible] def ii37 := In.mk inf37
@[reducible] def ii39 := In.mk inf39
@[reducible] def ii42 := In.mk inf42
@[reducible] def ii44 := In.mk inf44
@[reducible] def ii46 := In.mk inf46
@[reducible] def ii49 := In.mk inf49
@[reducible] def ii52 := In.mk inf52
@[reducible] def ii58 := In.mk inf58
@[reducible] def ii59 := In.mk inf59
@[reducible] def ii60 := In.mk inf60
@[reducible] def ii63 := In.mk inf63
@[reducible] def ii67 := In.mk inf67
@[reducible] def ii79 := In.mk inf79
@[reducible] def ii80 := In.mk inf80
@[reducible] def ii82 := In.mk inf82
@[reducible] def ii95 := In.mk inf95
@[reducible] def ii101 := In.mk inf101
@[reducible] def ii103 := In.mk inf103
@[reducible] def ii104 := In.mk inf104
@[reducible] def ii106 := In.mk inf106
@[reducible] def ii107 := In.mk inf107
@[reducible] def ii109 := In.mk inf109
@[reducible] def ii111 := In.mk inf111
@[reducible] def ii113 := In.mk inf113
@[reducible] def ii116 := In.mk inf116
@[reducible] def ii128 := In.mk inf128
@[reducible] def ii133 := In.mk inf133
@[reducible] def ii136 := In.mk inf136
@[reducible] def ii147 := In.mk inf147
@[reducible] def ii157 := In.mk inf157
@[reducible] def ii161 := In.mk inf161
attribute [instance] ii3 ii4 ii22 ii23 ii25 ii26 ii34 ii37 ii39 ii42 ii44 ii46 ii49 ii52 ii58 ii59 ii60 ii63 ii67 ii79 ii80 ii82 ii95 ii101 ii103 ii104 ii106 ii107 ii109 ii111 ii113 ii116 ii128 ii133 ii136 ii147 ii157 ii161
instance : Zr Try.prog 3 [.t (.v (.int .i64 0))] := ⟨_, _, _, inf3, rfl, rfl⟩
instance : Zr Try.prog 22 [.nl] := ⟨_, _, _, inf22, rfl, rfl⟩
instance : Zr Try.prog 25 [.t (.v (.int .i64 0)), .nl, .nl] := ⟨_, _, _, inf25, rfl, rfl⟩
instance : Zr Try.prog 26 [.nl] := ⟨_, _, _, inf26, rfl, rfl⟩
instance : Zr Try.prog 34 [.t (.v (.bool false)), .t (.v (.bool false)), .t (.v (.bool false)), .t (.v (.int .i64 0)), .nl, .t (.v (.int .i64 0)), .t (.v (.int .i64 0))] := ⟨_, _, _, inf34, rfl, rfl⟩
instance : Zr Try.prog 39 [.t (.v (.int .i64 0)), .t (.v (.int .i64 0)), .t (.v (.int .i64 0)), .t (.v (.bool false)), .nl] := ⟨_, _, _, inf39, rfl, rfl⟩
instance : Zr Try.prog 44 [.t (.v (.int .i64 0)), .t (.v (.int .i64 0)), .t (.v (.int .i64 0)), .t (.v (.int .i64 0))] := ⟨_, _, _, inf44, rfl, rfl⟩
instance : Zr Try.prog 46 [.t (.v (.int .i64 0)), .t (.v (.int .i64 0)), .t (.v (.int .i64 0))] := ⟨_, _, _, inf46, rfl, rfl⟩
instance : Zr Try.prog 60 [.t (.v (.int .i64 0)), .t (.v (.int .i64 0)), .t (.v (.int .i64 0)), .t (.v (.int .i64 0)), .t (.v (.int .i64 0)), .t (.v (.int .i64 0))] := ⟨_, _, _, inf60, rfl, rfl⟩
instance : Zr Try.prog 63 [.t (.v (.int .i64 0)), .t (.v (.int .i64 0)), .t (.v (.int .i64 0)), .t (.v (.int .i64 0)), .t (.v (.int .i64 0)), .t (.v (.int .i64 0))] := ⟨_, _, _, inf63, rfl, rfl⟩
instance : Zr Try.prog 82 [.t (.v (.int .i64 0)), .t (.v (.int .u64 0)), .t (.v (.int .u64 0))] := ⟨_, _, _, inf82, rfl, rfl⟩
instance : Zr Try.prog 104 [.t (.v (.int .i64 0)), .t (.v (.int .u64 0)), .t (.v (.int .u64 0))] := ⟨_, _, _, inf104, rfl, rfl⟩
instance : Zr Try.prog 106 [.t (.v (.int .i64 0)), .t (.v (.int .i64 0)), .t (.v (.int .i64 0)), .t (.v (.int .i64 0)), .t (.v (.int .i64 0)), .t (.v (.int .i64 0)), .t (.v (.int .i64 0)), .t (.v (.bool false)), .nl, .t (.v (.int .i64 0)), .t (.v (.int .i64 0)), .t (.v (.int .i64 0)), .t (.v (.int .i64 0))] := ⟨_, _, _, inf106, rfl, rfl⟩
instance : Zr Try.prog 109 [.t (.v (.int .i64 0)), .t (.v (.int .i64 0)), .nl] := ⟨_, _, _, inf109, rfl, rfl⟩
instance : Zr Try.prog 111 [.t (.v (.int .i64 0)), .t (.v (.int .i64 0)), .t (.v (.int .i64 0)), .t (.v (.int .i64 0)), .t (.v (.int .i64 0)), .t (.v (.int .i64 0)), .t (.v (.bool false)), .nl] := ⟨_, _, _, inf111, rfl, rfl⟩
instance : Zr Try.prog 116 [.t (.v (.int .i64 0)), .t (.v (.int .i64 0)), .t (.v (.int .i64 0)), .t (.v (.int .i64 0))] := ⟨_, _, _, inf116, rfl, rfl⟩
instance : Zr Try.prog 136 [.t (.v (.int .i64 0)), .t (.v (.int .i64 0)), .t (.v (.int .i64 0)), .t (.v (.int .i64 0)), .t (.v (.int .i64 0))] := ⟨_, _, _, inf136, rfl, rfl⟩
instance : Zr Try.prog 157 [.t (.v (.int .u64 0))] := ⟨_, _, _, inf157, rfl, rfl⟩
instance : Bp Try.prog 25 [(0, 1), (1, 1), (2, 1)] := ⟨_, ud25, by kernel_rfl⟩
instance : Bp Try.prog 34 [(0, 1), (1, 1), (2, 1), (3, 1), (4, 1), (5, 1), (6, 1)] := ⟨_, ud34, by kernel_rfl⟩
instance : Bp Try.prog 39 [(0, 1), (1, 1), (2, 1), (3, 1), (4, 1)] := ⟨_, ud39, by kernel_rfl⟩
instance : Bp Try.prog 44 [(0, 1), (1, 1), (2, 1), (3, 1)] := ⟨_, ud44, by kernel_rfl⟩
instance : Bp Try.prog 46 [(0, 1), (1, 1), (2, 1)] := ⟨_, ud46, by kernel_rfl⟩
instance : Bp Try.prog 63 [(0, 1), (1, 1), (2, 1), (3, 1), (4, 1), (5, 1)] := ⟨_, ud63, by kernel_rfl⟩
instance : Bp Try.prog 82 [(0, 1), (1, 1), (2, 1)] := ⟨_, ud82, by kernel_rfl⟩
instance : Bp Try.prog 104 [(0, 1), (1, 1), (2, 1)] := ⟨_, ud104, by kernel_rfl⟩
instance : Bp Try.prog 106 [(0, 1), (1, 1), (2, 1), (3, 1), (4, 5), (9, 4)] := ⟨_, ud106, by kernel_rfl⟩
instance : Bp Try.prog 109 [(0, 1), (1, 1), (2, 1)] := ⟨_, ud109, by kernel_rfl⟩
instance : Bp Try.prog 111 [(0, 1), (1, 1), (2, 1), (3, 5)] := ⟨_, ud111, by kernel_rfl⟩
instance : Bp Try.prog 116 [(0, 1), (1, 1), (2, 1), (3, 1)] := ⟨_, ud116, by kernel_rfl⟩
instance : Ba Try.prog 136 1 [(0, 1), (1, 1), (2, 1), (3, 1), (4, 1)] := ⟨_, _, _, _, ud136, inf3, by kernel_rfl⟩
end
end Go.Proofs.Ytnibnbcmnaflmaa
namespace Go.Proofs.Ytnibnbcmnaflmaa
set_option linter.unusedVariables false
set_option linter.unusedSimpArgs false
set_option linter.unnecessarySimpa false
open Go.RowKit Go.ChangeShapes Go.WideShapes
structure DXg where
 addr : Int
 old : Int
 now : Int
 deriving DecidableEq, Inhabited
def tXg (x : DXg) : List Tr := tI x.addr ++ tU x.old ++ tU x.now
def sXg (x : DXg) : Prop := sI x.addr ∧ sU x.old ∧ sU x.now
def bXg (x : DXg) : Nat := b1 x.addr + b1 x.old + b1 x.now
theorem o_Xg {H : Type} {enc : TypeId × Value → H} {W : World} : Opens enc Try.prog W 82 tXg sXg bXg := by
 refine Opens.map (Opens.struct (n := 3) Try.underlying82 (by kernel_rfl) (fun _ => rfl) (OpensF.cons (s := 1) rfl rfl (by kernel_rfl) (fun _ => rfl) o_int (OpensF.cons (s := 1) rfl rfl (by kernel_rfl) (fun _ => rfl) o_u64 (OpensF.cons (s := 1) rfl rfl (by kernel_rfl) (fun _ => rfl) o_u64 OpensF.nil)))) (fun (p : Int × Int × Int × Unit) => ⟨p.1, p.2.1, p.2.2.1⟩) (fun p => ?_) (fun p h => ?_) (fun p => ?_)
 ·simp [tXg, List.append_nil, tI, tL, tU]
 ·obtain ⟨h0, h1, h2, _⟩ := h; exact ⟨h0, h1, h2⟩
 ·exact Nat.le_of_eq (by simp only [bXg, Nat.add_assoc, Nat.add_zero])
theorem o_Xgs {H : Type} {enc : TypeId × Value → H} {W : World} : Opens enc Try.prog W 49 (tL tXg) (sL sXg 24) (bL bXg) := Opens.slice (s := 3) Try.underlying49 (by kernel_rfl) (by kernel_rfl) (fun _ => rfl) o_Xg
end Go.Proofs.Ytnibnbcmnaflmaa
namespace Go.Proofs.Ytnibnbcmnaflmaa
set_option linter.unusedVariables false
set_option linter.unusedSimpArgs false
set_option linter.unnecessarySimpa false
def ofQ (a b : List Int) (q : Nat) : List DXg := (List.range q).filterMap fun i => if a.getD i 0 = b.getD i 0 then none else some ⟨i, a.getD i 0, b.getD i 0⟩
theorem ofQ_yes {a b : List Int} {q : Nat} {x y : Int} (ha : a[q]? = some x) (hb : b[q]? = some y) (h : x ≠ y) : ofQ a b (q + 1) = ofQ a b q ++ [⟨q, x, y⟩] := by
 unfold ofQ
 rw [List.range_succ, List.filterMap_append]
 simp [ha, hb, h]
theorem ofQ_no {a b : List Int} {q : Nat} {x : Int} (ha : a[q]? = some x) (hb : b[q]? = some x) : ofQ a b (q + 1) = ofQ a b q := by
 unfold ofQ
 rw [List.range_succ, List.filterMap_append]
 simp [ha, hb]
theorem ofQ_len (a b : List Int) (q : Nat) : (ofQ a b q).length ≤ q := by
 have := List.length_filterMap_le (fun i => if a.getD i 0 = b.getD i 0 then none else some (⟨i, a.getD i 0, b.getD i 0⟩ : DXg)) (List.range q)
 rw [List.length_range] at this
 exact this
def flX (x : DXg) : DXg := ⟨x.addr, x.now, x.old⟩
def bkQ (l : List DXg) (q : Nat) : List DXg := (l.drop q).reverse.map flX
theorem bkQ_next {l : List DXg} {q : Nat} {x : DXg} (h : l[q]? = some x) : bkQ l q = bkQ l (q + 1) ++ [⟨x.addr, x.now, x.old⟩] := by
 unfold bkQ
 have hq := (List.getElem?_eq_some_iff.1 h).1
 rw [List.drop_eq_getElem_cons hq, List.reverse_cons, List.map_append]
 have : l[q] = x := (List.getElem?_eq_some_iff.1 h).2
 rw [this]; rfl
theorem bkQ_len (l : List DXg) (q : Nat) : (bkQ l q).length = l.length - q := by unfold bkQ; simp
def fE (c : Nat → Int) : Nat → Int
 | 0 => 0
 | q + 1 => if fE c q = 0 then c q else fE c q
theorem fE_next {c : Nat → Int} {q : Nat} (h : fE c q = 0) : fE c (q + 1) = c q := by simp [fE, h]
theorem fE_stay {c : Nat → Int} {q : Nat} (h : fE c q ≠ 0) : ∀ {n : Nat}, q ≤ n → fE c n = fE c q := by
 intro n hn
 induction n with
 | zero =>
  obtain rfl : q = 0 := by omega
  rfl
 | succ n ih =>
  by_cases e : q = n + 1
  ·rw [e]
  ·have := ih (by omega)
   simp only [fE, this, if_neg h]
def apC (l : List Int) (xs : List DXg) (q : Nat) : List Int := (xs.take q).foldl (fun l x => l.set x.addr.toNat x.now) l
def apK (C : List Int) (x : DXg) : Int := if x.addr < 0 ∨ (C.length : Int) ≤ x.addr then 5 else if C.getD x.addr.toNat 0 = x.old then 0 else 3
def apE (l : List Int) (xs : List DXg) : Nat → Int := fE fun i => apK (apC l xs i) (xs.getD i default)
theorem apC_zero (l : List Int) (xs : List DXg) : apC l xs 0 = l := rfl
theorem apC_next {l : List Int} {xs : List DXg} {q : Nat} {x : DXg} (h : xs[q]? = some x) : apC l xs (q + 1) = (apC l xs q).set x.addr.toNat x.now := by
 unfold apC
 rw [List.take_add_one, h, List.foldl_append]; rfl
theorem apC_len (l : List Int) (xs : List DXg) : ∀ q, (apC l xs q).length = l.length
 | 0 => rfl
 | q + 1 => by
  cases h : xs[q]? with
  | none => unfold apC; rw [List.take_add_one, h]; simpa [apC] using apC_len l xs q
  | some x => rw [apC_next h, List.length_set, apC_len l xs q]
theorem apE_next {l : List Int} {xs : List DXg} {q : Nat} {x : DXg} (h : xs[q]? = some x) (h0 : apE l xs q = 0) : apE l xs (q + 1) = apK (apC l xs q) x := by
 unfold apE at *
 rw [fE_next h0, List.getD_eq_getElem?_getD, h]; rfl
theorem apE_stop {l : List Int} {xs : List DXg} {q : Nat} {x : DXg} (h : xs[q]? = some x) (h0 : apE l xs q = 0) {c : Int} (hc : apK (apC l xs q) x = c) (h1 : c ≠ 0) : apE l xs xs.length = c := by
 have h2 := apE_next h h0
 rw [hc] at h2
 have h3 := (List.getElem?_eq_some_iff.1 h).1
 unfold apE at *
 rw [fE_stay (q := q + 1) (by rw [h2]; exact h1) (by omega), h2]
def fiX (l : List DXg) (k : Int) : Nat := l.findIdx fun y => decide (y.addr = k)
def stX (C : List DXg) (x : DXg) : List DXg := if fiX C x.addr < C.length then C.set (fiX C x.addr) ⟨(C.getD (fiX C x.addr) default).addr, (C.getD (fiX C x.addr) default).old, x.now⟩ else C ++ [x]
def thK (C : List DXg) (x : DXg) : Int := if fiX C x.addr < C.length then if (C.getD (fiX C x.addr) default).now = x.old then 0 else 3 else 0
def thC (xs : List DXg) (q : Nat) : List DXg := (xs.take q).foldl stX []
def thE (xs : List DXg) : Nat → Int := fE fun i => thK (thC xs i) (xs.getD i default)
theorem thC_next {xs : List DXg} {q : Nat} {x : DXg} (h : xs[q]? = some x) : thC xs (q + 1) = stX (thC xs q) x := by
 unfold thC
 rw [List.take_add_one, h, List.foldl_append]; rfl
theorem thE_next {xs : List DXg} {q : Nat} {x : DXg} (h : xs[q]? = some x) (h0 : thE xs q = 0) : thE xs (q + 1) = thK (thC xs q) x := by
 unfold thE at *
 rw [fE_next h0, List.getD_eq_getElem?_getD, h]; rfl
theorem thE_stop {xs : List DXg} {q : Nat} {x : DXg} (h : xs[q]? = some x) (h0 : thE xs q = 0) {c : Int} (hc : thK (thC xs q) x = c) (h1 : c ≠ 0) : thE xs xs.length = c := by
 have h2 := thE_next h h0
 rw [hc] at h2
 have h3 := (List.getElem?_eq_some_iff.1 h).1
 unfold thE at *
 rw [fE_stay (q := q + 1) (by rw [h2]; exact h1) (by omega), h2]
theorem fiX_lt {C : List DXg} {k : Int} (h : fiX C k < C.length) : ∃ y, C[fiX C k]? = some y ∧ y.addr = k := by
 refine ⟨C[fiX C k], List.getElem?_eq_getElem h, ?_⟩
 have := List.findIdx_getElem (xs := C) (p := fun y : DXg => decide (y.addr = k)) (w := h)
 exact of_decide_eq_true this
theorem fiX_le (C : List DXg) (k : Int) : fiX C k ≤ C.length := List.findIdx_le_length
theorem fiX_not {C : List DXg} {k : Int} {i : Nat} (hi : i < fiX C k) {y : DXg} (hy : C[i]? = some y) : y.addr ≠ k := by
 have := List.not_of_lt_findIdx hi
 obtain ⟨h1, h2⟩ := List.getElem?_eq_some_iff.1 hy
 rw [h2] at this
 simpa using this
abbrev ndX (C : List DXg) : Prop := (C.map (·.addr)).Nodup
theorem fiX_one {C : List DXg} (hn : ndX C) {k : Int} {i : Nat} {y : DXg} (hy : C[i]? = some y) (hk : y.addr = k) : i = fiX C k := by
 obtain ⟨h1, h2⟩ := List.getElem?_eq_some_iff.1 hy
 have hle : fiX C k ≤ i := by
  rcases Nat.lt_or_ge i (fiX C k) with h | h
  ·exact absurd hk (fiX_not h hy)
  ·exact h
 obtain ⟨z, hz, hzk⟩ := fiX_lt (C := C) (k := k) (by omega)
 have e1 : (C.map (·.addr))[i]? = some k := by rw [List.getElem?_map, hy]; simp [hk]
 have e2 : (C.map (·.addr))[fiX C k]? = some k := by rw [List.getElem?_map, hz]; simp [hzk]
 exact (List.getElem?_inj (by simpa using h1) hn).1 (e1.trans e2.symm)
theorem stX_nd {C : List DXg} (h : ndX C) (x : DXg) : ndX (stX C x) := by
 unfold stX ndX
 split
 ·rename_i hl
  obtain ⟨y, hy, hk⟩ := fiX_lt hl
  have e : (C.set (fiX C x.addr) ⟨(C.getD (fiX C x.addr) default).addr, (C.getD (fiX C x.addr) default).old, x.now⟩).map (·.addr) = C.map (·.addr) := by
   rw [List.map_set]
   apply List.ext_getElem?
   intro j
   rw [List.getElem?_set]
   split
   ·subst_vars
    rw [if_pos (by simpa using hl), List.getElem?_map, List.getD_eq_getElem?_getD, hy]; rfl
   ·rfl
  rw [e]; exact h
 ·rename_i hl
  rw [List.map_append, List.nodup_append]
  refine ⟨h, by simp, fun a ha b hb => ?_⟩
  obtain ⟨y, hy, rfl⟩ := List.mem_map.1 ha
  simp at hb
  subst hb
  intro e
  obtain ⟨i, hi⟩ := List.getElem?_of_mem hy
  have := fiX_one h hi e
  have := (List.getElem?_eq_some_iff.1 hi).1
  omega
theorem thC_nd (xs : List DXg) : ∀ q, ndX (thC xs q)
 | 0 => List.nodup_nil
 | q + 1 => by
  cases h : xs[q]? with
  | none => unfold thC; rw [List.take_add_one, h]; simpa [thC] using thC_nd xs q
  | some x => rw [thC_next h]; exact stX_nd (thC_nd xs q) x
theorem thC_len (xs : List DXg) : ∀ q, (thC xs q).length ≤ q
 | 0 => Nat.le_refl _
 | q + 1 => by
  have := thC_len xs q
  cases h : xs[q]? with
  | none => unfold thC at *; rw [List.take_add_one, h]; simp; omega
  | some x => rw [thC_next h]; unfold stX; split <;> simp <;> omega
def kpX (C : List DXg) : List DXg := C.filter fun x => !decide (x.old = x.now)
abbrev riX (C : List DXg) : Prop := C.Pairwise fun x y => x.addr < y.addr
theorem riX_eq : ∀ {a b : List DXg}, riX a → riX b → (∀ x, x ∈ a ↔ x ∈ b) → a = b
 | [], [], _, _, _ => rfl
 | [], y :: b, _, _, h => absurd ((h y).2 List.mem_cons_self) (by simp)
 | x :: a, [], _, _, h => absurd ((h x).1 List.mem_cons_self) (by simp)
 | x :: a, y :: b, ha, hb, h => by
  unfold riX at ha hb
  rw [List.pairwise_cons] at ha hb
  have hxy : x = y := by
   rcases List.mem_cons.1 ((h x).1 List.mem_cons_self) with e | hx
   ·exact e
   ·rcases List.mem_cons.1 ((h y).2 List.mem_cons_self) with e | hy
    ·exact e.symm
    ·have h1 := ha.1 y hy
     have h2 := hb.1 x hx
     omega
  subst hxy
  rw [riX_eq ha.2 hb.2 fun z => ⟨fun hz => ?_, fun hz => ?_⟩]
  ·rcases List.mem_cons.1 ((h z).1 (List.mem_cons_of_mem _ hz)) with e | q
   ·have := ha.1 z hz; subst e; omega
   ·exact q
  ·rcases List.mem_cons.1 ((h z).2 (List.mem_cons_of_mem _ hz)) with e | q
   ·have := hb.1 z hz; subst e; omega
   ·exact q
def plX (O : List DXg) (v : Int) : Nat → Nat
 | 0 => 0
 | k + 1 => if v < (O.getD k default).addr then plX O v k else k + 1
def insX (O : List DXg) (x : DXg) : List DXg := O.take (plX O x.addr O.length) ++ [x] ++ O.drop (plX O x.addr O.length)
def inR (C : List DXg) (q : Nat) : List DXg := (kpX (C.take q)).foldl insX []
theorem plX_le (O : List DXg) (v : Int) : ∀ k, plX O v k ≤ k
 | 0 => Nat.le_refl _
 | k + 1 => by unfold plX; split; have := plX_le O v k; omega; omega
theorem plX_go {O : List DXg} {v : Int} {k : Nat} {y : DXg} (h : O[k]? = some y) (hy : v < y.addr) : plX O v (k + 1) = plX O v k := by
 conv => lhs; unfold plX
 rw [if_pos (by rw [List.getD_eq_getElem?_getD, h]; exact hy)]
theorem plX_stop {O : List DXg} {v : Int} {k : Nat} {y : DXg} (h : O[k]? = some y) (hy : ¬ v < y.addr) : plX O v (k + 1) = k + 1 := by
 conv => lhs; unfold plX
 rw [if_neg (by rw [List.getD_eq_getElem?_getD, h]; exact hy)]
theorem plX_up {O : List DXg} {v : Int} : ∀ {k j : Nat} {y : DXg}, plX O v k ≤ j → j < k → O[j]? = some y → v < y.addr
 | 0, j, y, _, h, _ => by omega
 | k + 1, j, y, h1, h2, hy => by
  by_cases e : v < (O.getD k default).addr
  ·unfold plX at h1
   rw [if_pos e] at h1
   by_cases ej : j = k
   ·subst ej; rw [List.getD_eq_getElem?_getD, hy] at e; exact e
   ·exact plX_up (k := k) h1 (by omega) hy
  ·unfold plX at h1
   rw [if_neg e] at h1
   omega
theorem plX_dn {O : List DXg} {v : Int} : ∀ {k : Nat}, plX O v k ≠ 0 → ¬ v < (O.getD (plX O v k - 1) default).addr
 | 0, h => by simp [plX] at h
 | k + 1, h => by
  by_cases e : v < (O.getD k default).addr
  ·unfold plX at h ⊢
   rw [if_pos e] at h ⊢
   exact plX_dn h
  ·unfold plX
   rw [if_neg e]
   simpa using e
theorem insX_mem {O : List DXg} {x z : DXg} : z ∈ insX O x ↔ z = x ∨ z ∈ O := by
 unfold insX
 rw [List.mem_append, List.mem_append, List.mem_singleton]
 constructor
 ·rintro ((h | h) | h)
  ·exact .inr (List.mem_of_mem_take h)
  ·exact .inl h
  ·exact .inr (List.mem_of_mem_drop h)
 ·rintro (h | h)
  ·exact .inl (.inr h)
  ·rw [← List.take_append_drop (plX O x.addr O.length) O, List.mem_append] at h
   rcases h with h | h
   ·exact .inl (.inl h)
   ·exact .inr h
theorem insX_ri {O : List DXg} {x : DXg} (h : riX O) (hn : ∀ y ∈ O, y.addr ≠ x.addr) : riX (insX O x) := by
 unfold insX riX
 have hup : ∀ y ∈ O.drop (plX O x.addr O.length), x.addr < y.addr := by
  intro y hy
  obtain ⟨i, hi⟩ := List.getElem?_of_mem hy
  rw [List.getElem?_drop] at hi
  exact plX_up (k := O.length) (Nat.le_add_right _ _) ((List.getElem?_eq_some_iff.1 hi).1) hi
 have hdn : ∀ y ∈ O.take (plX O x.addr O.length), y.addr < x.addr := by
  intro y hy
  obtain ⟨i, hi⟩ := List.getElem?_of_mem hy
  rw [List.getElem?_take] at hi
  split at hi
  ·rename_i hlt
   have hd := plX_dn (O := O) (v := x.addr) (k := O.length) (by omega)
   have hle := plX_le O x.addr O.length
   have hz : O[plX O x.addr O.length - 1]? = some O[plX O x.addr O.length - 1] := List.getElem?_eq_getElem (by omega)
   rw [List.getD_eq_getElem?_getD, hz] at hd
   have hmem := List.mem_of_getElem? hz
   have h1 := hn _ hmem
   simp only [Option.getD_some] at hd
   by_cases e : i = plX O x.addr O.length - 1
   ·subst e
    rw [hz] at hi; cases hi
    omega
   ·have h2 := List.pairwise_iff_getElem.1 h i (plX O x.addr O.length - 1) ((List.getElem?_eq_some_iff.1 hi).1) (by omega) (by omega)
    rw [(List.getElem?_eq_some_iff.1 hi).2] at h2
    omega
  ·cases hi
 rw [List.append_assoc, List.pairwise_append]
 refine ⟨h.sublist (List.take_sublist _ _), ?_, fun a ha b hb => ?_⟩
 ·rw [List.singleton_append, List.pairwise_cons]
  exact ⟨hup, h.sublist (List.drop_sublist _ _)⟩
 ·have h1 := hdn a ha
  rw [List.singleton_append] at hb
  rcases List.mem_cons.1 hb with e | hb
  ·subst e; exact h1
  ·have := hup b hb; omega
theorem inR_yes {C : List DXg} {q : Nat} {x : DXg} (h : C[q]? = some x) (hx : x.old ≠ x.now) : inR C (q + 1) = insX (inR C q) x := by
 unfold inR kpX
 rw [List.take_add_one, h, List.filter_append, List.foldl_append]
 simp [hx]
theorem inR_no {C : List DXg} {q : Nat} {x : DXg} (h : C[q]? = some x) (hx : x.old = x.now) : inR C (q + 1) = inR C q := by
 unfold inR kpX
 rw [List.take_add_one, h, List.filter_append, List.foldl_append]
 simp [hx]
theorem inR_inv {C : List DXg} (hn : ndX C) : ∀ q, q ≤ C.length → riX (inR C q) ∧ ∀ z, z ∈ inR C q ↔ z ∈ kpX (C.take q)
 | 0, _ => ⟨List.Pairwise.nil, fun z => by simp [inR, kpX]⟩
 | q + 1, h => by
  obtain ⟨h1, h2⟩ := inR_inv hn q (by omega)
  have hx : C[q]? = some C[q] := List.getElem?_eq_getElem (by omega)
  by_cases e : C[q].old = C[q].now
  ·rw [inR_no hx e]
   refine ⟨h1, fun z => ?_⟩
   rw [h2]
   unfold kpX
   rw [List.take_add_one, hx, List.filter_append]
   simp [e]
  ·rw [inR_yes hx e]
   refine ⟨insX_ri h1 fun y hy he => ?_, fun z => ?_⟩
   ·have h3 := (List.mem_filter.1 ((h2 y).1 hy)).1
    obtain ⟨i, hi⟩ := List.getElem?_of_mem h3
    rw [List.getElem?_take] at hi
    split at hi
    ·have := fiX_one hn hi he
     have := fiX_one hn hx rfl
     omega
    ·cases hi
   ·rw [insX_mem, h2]
    unfold kpX
    rw [List.take_add_one, hx, List.filter_append]
    simp [e, or_comm]
theorem inR_len (C : List DXg) : ∀ q, (inR C q).length ≤ q
 | 0 => Nat.le_refl _
 | q + 1 => by
  have := inR_len C q
  cases h : C[q]? with
  | none =>
   have e : inR C (q + 1) = inR C q := by unfold inR; rw [List.take_add_one, h]; simp
   rw [e]; omega
  | some x =>
   by_cases e : x.old = x.now
   ·rw [inR_no h e]; omega
   ·rw [inR_yes h e]
    unfold insX
    have := plX_le (inR C q) x.addr (inR C q).length
    simp only [List.length_append, List.length_take, List.length_drop, List.length_singleton]; omega
theorem inR_of {C D : List DXg} (hn : ndX C) (hp : ∀ z, z ∈ D ↔ z ∈ kpX C) (hr : riX D) : D = inR C C.length := by
 obtain ⟨h1, h2⟩ := inR_inv hn C.length (Nat.le_refl _)
 refine riX_eq hr h1 fun z => ?_
 rw [hp, h2, List.take_length]
end Go.Proofs.Ytnibnbcmnaflmaa
