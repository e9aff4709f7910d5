/- Joined: XTUI, XTChg, XTDiffP, XTDiffC, XTGrow, XTClear, XTWaitP, XTIdxF. -/
import Derived.Test.YtnibnbcmnaflmaaKEd
import Derived.Test.YtnibnbcmnaflmaaKEg
import Derived.Test.YtnibnbcmnaflmaaKEe
import Derived.Test.YtnibnbcmnaflmaaKEc
import Derived.Lib.AppendZerosOnto
import Derived.Laws.CopyRow
namespace Go.Proofs.Ytnibnbcmnaflmaa
open Go.RowKit
set_option linter.unusedVariables false
set_option linter.unusedSimpArgs false
set_option linter.unnecessarySimpa false
set_option maxRecDepth 100000
set_option maxHeartbeats 64000000
section
@[reducible] def iu3 := Ud.mk ud3
@[reducible] def iu4 := Ud.mk ud4
@[reducible] def iu5 := Ud.mk ud5
@[reducible] def iu9 := Ud.mk ud9
@[reducible] def iu22 := Ud.mk ud22
@[reducible] def iu23 := Ud.mk ud23
@[reducible] def iu25 := Ud.mk ud25
@[reducible] def iu26 := Ud.mk ud26
@[reducible] def iu34 := Ud.mk ud34
@[reducible] def iu37 := Ud.mk ud37
@[reducible] def iu39 := Ud.mk ud39
@[reducible] def iu42 := Ud.mk ud42
@[reducible] def iu44 := Ud.mk ud44
@[reducible] def iu46 := Ud.mk ud46
@[reducible] def iu49 := Ud.mk ud49
@[reducible] def iu52 := Ud.mk ud52
@[reducible] def iu58 := Ud.mk ud58
@[reducible] def iu59 := Ud.mk ud59
@[reducible] def iu60 := Ud.mk ud60
@[reducible] def iu63 := Ud.mk ud63
@[reducible] def iu67 := Ud.mk ud67
@[reducible] def iu79 := Ud.mk ud79
@[reducible] def iu80 := Ud.mk ud80
@[reducible] def iu82 := Ud.mk ud82
@[reducible] def iu95 := Ud.mk ud95
@[reducible] def iu97 := Ud.mk ud97
@[reducible] def iu101 := Ud.mk ud101
@[reducible] def iu103 := Ud.mk ud103
@[reducible] def iu104 := Ud.mk ud104
@[reducible] def iu106 := Ud.mk ud106
@[reducible] def iu107 := Ud.mk ud107
@[reducible] def iu109 := Ud.mk ud109
@[reducible] def iu111 := Ud.mk ud111
@[reducible] def iu113 := Ud.mk ud113
@[reducible] def iu116 := Ud.mk ud116
@[reducible] def iu128 := Ud.mk ud128
@[reducible] def iu133 := Ud.mk ud133
@[reducible] def iu136 := Ud.mk ud136
@[reducible] def iu140 := Ud.mk ud140
@[reducible] def iu147 := Ud.mk ud147
@[reducible] def iu157 := Ud.mk ud157
@[reducible] def iu161 := Ud.mk ud161
attribute [instance] iu3 iu4 iu5 iu9 iu22 iu23 iu25 iu26 iu34 iu37 iu39 iu42 iu44 iu46 iu49 iu52 iu58 iu59 iu60 iu63 iu67 iu79 iu80 iu82 iu95 iu97 iu101 iu103 iu104 iu106 iu107 iu109 iu111 iu113 iu116 iu128 iu133 iu136 iu140 iu147 iu157 iu161
@[reducible] def ii3 := In.mk inf3
@[reducible] def ii4 := In.mk inf4
@[reducible] def ii22 := In.mk inf22
@[reducible] def ii23 := In.mk inf23
@[reducible] def ii25 := In.mk inf25
@[reducible] def ii26 := In.mk inf26
@[reducible] def ii34 := In.mk inf34
@[reducible] def ii37 := In.mk inf37
@[reducible] def ii39 := In.mk inf39
@[reducible] def ii42 := In.mk inf42
@[reducible] def ii44 := In.mk inf44
@[reducible] def ii46 := In.mk inf46
@[reducible] def ii49 := In.mk inf49
@[reducible] def ii52 := In.mk inf52
@[reducible] def ii58 := In.mk inf58
@[reducible] def ii59 := In.mk inf59
@[reducible] def ii60 := In.mk inf60
@[reducible] def ii63 := In.mk inf63
@[reducible] def ii67 := In.mk inf67
@[reducible] def ii79 := In.mk inf79
@[reducible] def ii80 := In.mk inf80
@[reducible] def ii82 := In.mk inf82
@[reducible] def ii95 := In.mk inf95
@[reducible] def ii101 := In.mk inf101
@[reducible] def ii103 := In.mk inf103
@[reducible] def ii104 := In.mk inf104
@[reducible] def ii106 := In.mk inf106
@[reducible] def ii107 := In.mk inf107
@[reducible] def ii109 := In.mk inf109
@[reducible] def ii111 := In.mk inf111
@[reducible] def ii113 := In.mk inf113
@[reducible] def ii116 := In.mk inf116
@[reducible] def ii128 := In.mk inf128
@[reducible] def ii133 := In.mk inf133
@[reducible] def ii136 := In.mk inf136
@[reducible] def ii147 := In.mk inf147
@[reducible] def ii157 := In.mk inf157
@[reducible] def ii161 := In.mk inf161
attribute [instance] ii3 ii4 ii22 ii23 ii25 ii26 ii34 ii37 ii39 ii42 ii44 ii46 ii49 ii52 ii58 ii59 ii60 ii63 ii67 ii79 ii80 ii82 ii95 ii101 ii103 ii104 ii106 ii107 ii109 ii111 ii113 ii116 ii128 ii133 ii136 ii147 ii157 ii161
instance : Zr Try.prog 3 [.t (.v (.int .i64 0))] := ⟨_, _, _, inf3, rfl, rfl⟩
instance : Zr Try.prog 22 [.nl] := ⟨_, _, _, inf22, rfl, rfl⟩
instance : Zr Try.prog 25 [.t (.v (.int .i64 0)), .nl, .nl] := ⟨_, _, _, inf25, rfl, rfl⟩
instance : Zr Try.prog 26 [.nl] := ⟨_, _, _, inf26, rfl, rfl⟩
instance : Zr Try.prog 34 [.t (.v (.bool false)), .t (.v (.bool false)), .t (.v (.bool false)), .t (.v (.int .i64 0)), .nl, .t (.v (.int .i64 0)), .t (.v (.int .i64 0))] := ⟨_, _, _, inf34, rfl, rfl⟩
instance : Zr Try.prog 39 [.t (.v (.int .i64 0)), .t (.v (.int .i64 0)), .t (.v (.int .i64 0)), .t (.v (.bool false)), .nl] := ⟨_, _, _, inf39, rfl, rfl⟩
instance : Zr Try.prog 44 [.t (.v (.int .i64 0)), .t (.v (.int .i64 0)), .t (.v (.int .i64 0)), .t (.v (.int .i64 0))] := ⟨_, _, _, inf44, rfl, rfl⟩
instance : Zr Try.prog 46 [.t (.v (.int .i64 0)), .t (.v (.int .i64 0)), .t (.v (.int .i64 0))] := ⟨_, _, _, inf46, rfl, rfl⟩
instance : Zr Try.prog 60 [.t (.v (.int .i64 0)), .t (.v (.int .i64 0)), .t (.v (.int .i64 0)), .t (.v (.int .i64 0)), .t (.v (.int .i64 0)), .t (.v (.int .i64 0))] := ⟨_, _, _, inf60, rfl, rfl⟩
instance : Zr Try.prog 63 [.t (.v (.int .i64 0)), .t (.v (.int .i64 0)), .t (.v (.int .i64 0)), .t (.v (.int .i64 0)), .t (.v (.int .i64 0)), .t (.v (.int .i64 0))] := ⟨_, _, _, inf63, rfl, rfl⟩
instance : Zr Try.prog 82 [.t (.v (.int .i64 0)), .t (.v (.int .u64 0)), .t (.v (.int .u64 0))] := ⟨_, _, _, inf82, rfl, rfl⟩
instance : Zr Try.prog 104 [.t (.v (.int .i64 0)), .t (.v (.int .u64 0)), .t (.v (.int .u64 0))] := ⟨_, _, _, inf104, rfl, rfl⟩
instance : Zr Try.prog 106 [.t (.v (.int .i64 0)), .t (.v (.int .i64 0)), .t (.v (.int .i64 0)), .t (.v (.int .i64 0)), .t (.v (.int .i64 0)), .t (.v (.int .i64 0)), .t (.v (.int .i64 0)), .t (.v (.bool false)), .nl, .t (.v (.int .i64 0)), .t (.v (.int .i64 0)), .t (.v (.int .i64 0)), .t (.v (.int .i64 0))] := ⟨_, _, _, inf106, rfl, rfl⟩
instance : Zr Try.prog 109 [.t (.v (.int .i64 0)), .t (.v (.int .i64 0)), .nl] := ⟨_, _, _, inf109, rfl, rfl⟩
instance : Zr Try.prog 111 [.t (.v (.int .i64 0)), .t (.v (.int .i64 0)), .t (.v (.int .i64 0)), .t (.v (.int .i64 0)), .t (.v (.int .i64 0)), .t (.v (.int .i64 0)), .t (.v (.bool false)), .nl] := ⟨_, _, _, inf111, rfl, rfl⟩
instance : Zr Try.prog 116 [.t (.v (.int .i64 0)), .t (.v (.int .i64 0)), .t (.v (.int .i64 0)), .t (.v (.int .i64 0))] := ⟨_, _, _, inf116, rfl, rfl⟩
instance : Zr Try.prog 136 [.t (.v (.int .i64 0)), .t (.v (.int .i64 0)), .t (.v (.int .i64 0)), .t (.v (.int .i64 0)), .t (.v (.int .i64 0))] := ⟨_, _, _, inf136, rfl, rfl⟩
instance : Zr Try.prog 157 [.t (.v (.int .u64 0))] := ⟨_, _, _, inf157, rfl, rfl⟩
instance : Bp Try.prog 25 [(0, 1), (1, 1), (2, 1)] := ⟨_, ud25, by kernel_rfl⟩
instance : Bp Try.prog 34 [(0, 1), (1, 1), (2, 1), (3, 1), (4, 1), (5, 1), (6, 1)] := ⟨_, ud34, by kernel_rfl⟩
instance : Bp Try.prog 39 [(0, 1), (1, 1), (2, 1), (3, 1), (4, 1)] := ⟨_, ud39, by kernel_rfl⟩
instance : Bp Try.prog 44 [(0, 1), (1, 1), (2, 1), (3, 1)] := ⟨_, ud44, by kernel_rfl⟩
instance : Bp Try.prog 46 [(0, 1), (1, 1), (2, 1)] := ⟨_, ud46, by kernel_rfl⟩
instance : Bp Try.prog 63 [(0, 1), (1, 1), (2, 1), (3, 1), (4, 1), (5, 1)] := ⟨_, ud63, by kernel_rfl⟩
instance : Bp Try.prog 82 [(0, 1), (1, 1), (2, 1)] := ⟨_, ud82, by kernel_rfl⟩
instance : Bp Try.prog 104 [(0, 1), (1, 1), (2, 1)] := ⟨_, ud104, by kernel_rfl⟩
instance : Bp Try.prog 106 [(0, 1), (1, 1), (2, 1), (3, 1), (4, 5), (9, 4)] := ⟨_, ud106, by kernel_rfl⟩
instance : Bp Try.prog 109 [(0, 1), (1, 1), (2, 1)] := ⟨_, ud109, by kernel_rfl⟩
instance : Bp Try.prog 111 [(0, 1), (1, 1), (2, 1), (3, 5)] := ⟨_, ud111, by kernel_rfl⟩
instance : Bp Try.prog 116 [(0, 1), (1, 1), (2, 1), (3, 1)] := ⟨_, ud116, by kernel_rfl⟩
instance : Ba Try.prog 136 1 [(0, 1), (1, 1), (2, 1), (3, 1), (4, 1)] := ⟨_, _, _, _, ud136, inf3, by kernel_rfl⟩
end
end Go.Proofs.Ytnibnbcmnaflmaa
namespace Go.Proofs.Ytnibnbcmnaflmaa
set_option linter.unusedVariables false
set_option linter.unusedSimpArgs false
set_option linter.unnecessarySimpa false
open Go.RowKit Go.ChangeShapes Go.WideShapes
structure DXg where
 addr : Int
 old : Int
 now : Int
 deriving DecidableEq, Inhabited
def tXg (x : DXg) : List Tr := tI x.addr ++ tU x.old ++ tU x.now
def sXg (x : DXg) : Prop := sI x.addr ∧ sU x.old ∧ sU x.now
def bXg (x : DXg) : Nat := b1 x.addr + b1 x.old + b1 x.now
theorem o_Xg {H : Type} {enc : TypeId × Value → H} {W : World} : Opens enc Try.prog W 82 tXg sXg bXg := by
 refine Opens.map (Opens.struct (n := 3) Try.underlying82 (by kernel_rfl) (fun _ => rfl) (OpensF.cons (s := 1) rfl rfl (by kernel_rfl) (fun _ => rfl) o_int (OpensF.cons (s := 1) rfl rfl (by kernel_rfl) (fun _ => rfl) o_u64 (OpensF.cons (s := 1) rfl rfl (by kernel_rfl) (fun _ => rfl) o_u64 OpensF.nil)))) (fun (p : Int × Int × Int × Unit) => ⟨p.1, p.2.1, p.2.2.1⟩) (fun p => ?_) (fun p h => ?_) (fun p => ?_)
 ·simp [tXg, List.append_nil, tI, tL, tU]
 ·obtain ⟨h0, h1, h2, _⟩ := h; exact ⟨h0, h1, h2⟩
 ·exact Nat.le_of_eq (by simp only [bXg, Nat.add_assoc, Nat.add_zero])
theorem o_Xgs {H : Type} {enc : TypeId × Value → H} {W : World} : Opens enc Try.prog W 49 (tL tXg) (sL sXg 24) (bL bXg) := Opens.slice (s := 3) Try.underlying49 (by kernel_rfl) (by kernel_rfl) (fun _ => rfl) o_Xg
end Go.Proofs.Ytnibnbcmnaflmaa
namespace Go.Proofs.Ytnibnbcmnaflmaa
set_option linter.unusedVariables false
set_option linter.unusedSimpArgs false
set_option linter.unnecessarySimpa false
def ofQ (a b : List Int) (q : Nat) : List DXg := (List.range q).filterMap fun i => if a.getD i 0 = b.getD i 0 then none else some ⟨i, a.getD i 0, b.getD i 0⟩
theorem ofQ_yes {a b : List Int} {q : Nat} {x y : Int} (ha : a[q]? = some x) (hb : b[q]? = some y) (h : x ≠ y) : ofQ a b (q + 1) = ofQ a b q ++ [⟨q, x, y⟩] := by
 unfold ofQ
 rw [List.range_succ, List.filterMap_append]
 simp [ha, hb, h]
theorem ofQ_no {a b : List Int} {q : Nat} {x : Int} (ha : a[q]? = some x) (hb : b[q]? = some x) : ofQ a b (q + 1) = ofQ a b q := by
 unfold ofQ
 rw [List.range_succ, List.filterMap_append]
 simp [ha, hb]
theorem ofQ_len (a b : List Int) (q : Nat) : (ofQ a b q).length ≤ q := by
 have := List.length_filterMap_le (fun i => if a.getD i 0 = b.getD i 0 then none else some (⟨i, a.getD i 0, b.getD i 0⟩ : DXg)) (List.range q)
 rw [List.length_range] at this
 exact this
def flX (x : DXg) : DXg := ⟨x.addr, x.now, x.old⟩
def bkQ (l : List DXg) (q : Nat) : List DXg := (l.drop q).reverse.map flX
theorem bkQ_next {l : List DXg} {q : Nat} {x : DXg} (h : l[q]? = some x) : bkQ l q = bkQ l (q + 1) ++ [⟨x.addr, x.now, x.old⟩] := by
 unfold bkQ
 have hq := (List.getElem?_eq_some_iff.1 h).1
 rw [List.drop_eq_getElem_cons hq, List.reverse_cons, List.map_append]
 have : l[q] = x := (List.getElem?_eq_some_iff.1 h).2
 rw [this]; rfl
theorem bkQ_len (l : List DXg) (q : Nat) : (bkQ l q).length = l.length - q := by unfold bkQ; simp
def fE (c : Nat → Int) : Nat → Int
 | 0 => 0
 | q + 1 => if fE c q = 0 then c q else fE c q
theorem fE_next {c : Nat → Int} {q : Nat} (h : fE c q = 0) : fE c (q + 1) = c q := by simp [fE, h]
theorem fE_stay {c : Nat → Int} {q : Nat} (h : fE c q ≠ 0) : ∀ {n : Nat}, q ≤ n → fE c n = fE c q := by
 intro n hn
 induction n with
 | zero =>
  obtain rfl : q = 0 := by omega
  rfl
 | succ n ih =>
  by_cases e : q = n + 1
  ·rw [e]
  ·have := ih (by omega)
   simp only [fE, this, if_neg h]
def fiX (l : List DXg) (k : Int) : Nat := l.findIdx fun y => decide (y.addr = k)
def stX (C : List DXg) (x : DXg) : List DXg := if fiX C x.addr < C.length then C.set (fiX C x.addr) ⟨(C.getD (fiX C x.addr) default).addr, (C.getD (fiX C x.addr) default).old, x.now⟩ else C ++ [x]
def thK (C : List DXg) (x : DXg) : Int := if fiX C x.addr < C.length then if (C.getD (fiX C x.addr) default).now = x.old then 0 else 3 else 0
def thC (xs : List DXg) (q : Nat) : List DXg := (xs.take q).foldl stX []
def thE (xs : List DXg) : Nat → Int := fE fun i => thK (thC xs i) (xs.getD i default)
theorem thC_next {xs : List DXg} {q : Nat} {x : DXg} (h : xs[q]? = some x) : thC xs (q + 1) = stX (thC xs q) x := by
 unfold thC
 rw [List.take_add_one, h, List.foldl_append]; rfl
theorem thE_next {xs : List DXg} {q : Nat} {x : DXg} (h : xs[q]? = some x) (h0 : thE xs q = 0) : thE xs (q + 1) = thK (thC xs q) x := by
 unfold thE at *
 rw [fE_next h0, List.getD_eq_getElem?_getD, h]; rfl
theorem thE_stop {xs : List DXg} {q : Nat} {x : DXg} (h : xs[q]? = some x) (h0 : thE xs q = 0) {c : Int} (hc : thK (thC xs q) x = c) (h1 : c ≠ 0) : thE xs xs.length = c := by
 have h2 := thE_next h h0
 rw [hc] at h2
 have h3 := (List.getElem?_eq_some_iff.1 h).1
 unfold thE at *
 rw [fE_stay (q := q + 1) (by rw [h2]; exact h1) (by omega), h2]
theorem fiX_lt {C : List DXg} {k : Int} (h : fiX C k < C.length) : ∃ y, C[fiX C k]? = some y ∧ y.addr = k := by
 refine ⟨C[fiX C k], List.getElem?_eq_getElem h, ?_⟩
 have := List.findIdx_getElem (xs := C) (p := fun y : DXg => decide (y.addr = k)) (w := h)
 exact of_decide_eq_true this
theorem fiX_le (C : List DXg) (k : Int) : fiX C k ≤ C.length := List.findIdx_le_length
theorem fiX_not {C : List DXg} {k : Int} {i : Nat} (hi : i < fiX C k) {y : DXg} (hy : C[i]? = some y) : y.addr ≠ k := by
 have := List.not_of_lt_findIdx hi
 obtain ⟨h1, h2⟩ := List.getElem?_eq_some_iff.1 hy
 rw [h2] at this
 simpa using this
abbrev ndX (C : List DXg) : Prop := (C.map (·.addr)).Nodup
theorem fiX_one {C : List DXg} (hn : ndX C) {k : Int} {i : Nat} {y : DXg} (hy : C[i]? = some y) (hk : y.addr = k) : i = fiX C k := by
 obtain ⟨h1, h2⟩ := List.getElem?_eq_some_iff.1 hy
 have hle : fiX C k ≤ i := by
  rcases Nat.lt_or_ge i (fiX C k) with h | h
  ·exact absurd hk (fiX_not h hy)
  ·exact h
 obtain ⟨z, hz, hzk⟩ := fiX_lt (C := C) (k := k) (by omega)
 have e1 : (C.map (·.addr))[i]? = some k := by rw [List.getElem?_map, hy]; simp [hk]
 have e2 : (C.map (·.addr))[fiX C k]? = some k := by rw [List.getElem?_map, hz]; simp [hzk]
 exact (List.getElem?_inj (by simpa using h1) hn).1 (e1.trans e2.symm)
theorem stX_nd {C : List DXg} (h : ndX C) (x : DXg) : ndX (stX C x) := by
 unfold stX ndX
 split
 ·rename_i hl
  obtain ⟨y, hy, hk⟩ := fiX_lt hl
  have e : (C.set (fiX C x.addr) ⟨(C.getD (fiX C x.addr) default).addr, (C.getD (fiX C x.addr) default).old, x.now⟩).map (·.addr) = C.map (·.addr) := by
   rw [List.map_set]
   apply List.ext_getElem?
   intro j
   rw [List.getElem?_set]
   split
   ·subst_vars
    rw [if_pos (by simpa using hl), List.getElem?_map, List.getD_eq_getElem?_getD, hy]; rfl
   ·rfl
  rw [e]; exact h
 ·rename_i hl
  rw [List.map_append, List.nodup_append]
  refine ⟨h, by simp, fun a ha b hb => ?_⟩
  obtain ⟨y, hy, rfl⟩ := List.mem_map.1 ha
  simp at hb
  subst hb
  intro e
  obtain ⟨i, hi⟩ := List.getElem?_of_mem hy
  have := fiX_one h hi e
  have := (List.getElem?_eq_some_iff.1 hi).1
  omega
theorem thC_nd (xs : List DXg) : ∀ q, ndX (thC xs q)
 | 0 => List.nodup_nil
 | q + 1 => by
  cases h : xs[q]? with
  | none => unfold thC; rw [List.take_add_one, h]; simpa [thC] using thC_nd xs q
  | some x => rw [thC_next h]; exact stX_nd (thC_nd xs q) x
theorem thC_len (xs : List DXg) : ∀ q, (thC xs q).length ≤ q
 | 0 => Nat.le_refl _
 | q + 1 => by
  have := thC_len xs q
  cases h : xs[q]? with
  | none => unfold thC at *; rw [List.take_add_one, h]; simp; omega
  | some x => rw [thC_next h]; unfold stX; split <;> simp <;> omega
def kpX (C : List DXg) : List DXg := C.filter fun x => !decide (x.old = x.now)
abbrev riX (C : List DXg) : Prop := C.Pairwise fun x y => x.addr < y.addr
theorem riX_eq : ∀ {a b : List DXg}, riX a → riX b → (∀ x, x ∈ a ↔ x ∈ b) → a = b
 | [], [], _, _, _ => rfl
 | [], y :: b, _, _, h => absurd ((h y).2 List.mem_cons_self) (by simp)
 | x :: a, [], _, _, h => absurd ((h x).1 List.mem_cons_self) (by simp)
 | x :: a, y :: b, ha, hb, h => by
  unfold riX at ha hb
  rw [List.pairwise_cons] at ha hb
  have hxy : x = y := by
   rcases List.mem_cons.1 ((h x).1 List.mem_cons_self) with e | hx
   ·exact e
   ·rcases List.mem_cons.1 ((h y).2 List.mem_cons_self) with e | hy
    ·exact e.symm
    ·have h1 := ha.1 y hy
     have h2 := hb.1 x hx
     omega
  subst hxy
  rw [riX_eq ha.2 hb.2 fun z => ⟨fun hz => ?_, fun hz => ?_⟩]
  ·rcases List.mem_cons.1 ((h z).1 (List.mem_cons_of_mem _ hz)) with e | q
   ·have := ha.1 z hz; subst e; omega
   ·exact q
  ·rcases List.mem_cons.1 ((h z).2 (List.mem_cons_of_mem _ hz)) with e | q
   ·have := hb.1 z hz; subst e; omega
   ·exact q
def plX (O : List DXg) (v : Int) : Nat → Nat
 | 0 => 0
 | k + 1 => if v < (O.getD k default).addr then plX O v k else k + 1
def insX (O : List DXg) (x : DXg) : List DXg := O.take (plX O x.addr O.length) ++ [x] ++ O.drop (plX O x.addr O.length)
def inR (C : List DXg) (q : Nat) : List DXg := (kpX (C.take q)).foldl insX []
theorem plX_le (O : List DXg) (v : Int) : ∀ k, plX O v k ≤ k
 | 0 => Nat.le_refl _
 | k + 1 => by unfold plX; split; have := plX_le O v k; omega; omega
theorem plX_up {O : List DXg} {v : Int} : ∀ {k j : Nat} {y : DXg}, plX O v k ≤ j → j < k → O[j]? = some y → v < y.addr
 | 0, j, y, _, h, _ => by omega
 | k + 1, j, y, h1, h2, hy => by
  by_cases e : v < (O.getD k default).addr
  ·unfold plX at h1
   rw [if_pos e] at h1
   by_cases ej : j = k
   ·subst ej; rw [List.getD_eq_getElem?_getD, hy] at e; exact e
   ·exact plX_up (k := k) h1 (by omega) hy
  ·unfold plX at h1
   rw [if_neg e] at h1
   omega
theorem plX_dn {O : List DXg} {v : Int} : ∀ {k : Nat}, plX O v k ≠ 0 → ¬ v < (O.getD (plX O v k - 1) default).addr
 | 0, h => by simp [plX] at h
 | k + 1, h => by
  by_cases e : v < (O.getD k default).addr
  ·unfold plX at h ⊢
   rw [if_pos e] at h ⊢
   exact plX_dn h
  ·unfold plX
   rw [if_neg e]
   simpa using e
theorem insX_mem {O : List DXg} {x z : DXg} : z ∈ insX O x ↔ z = x ∨ z ∈ O := by
 unfold insX
 rw [List.mem_append, List.mem_append, List.mem_singleton]
 constructor
 ·rintro ((h | h) | h)
  ·exact .inr (List.mem_of_mem_take h)
  ·exact .inl h
  ·exact .inr (List.mem_of_mem_drop h)
 ·rintro (h | h)
  ·exact .inl (.inr h)
  ·rw [← List.take_append_drop (plX O x.addr O.length) O, List.mem_append] at h
   rcases h with h | h
   ·exact .inl (.inl h)
   ·exact .inr h
theorem insX_ri {O : List DXg} {x : DXg} (h : riX O) (hn : ∀ y ∈ O, y.addr ≠ x.addr) : riX (insX O x) := by
 unfold insX riX
 have hup : ∀ y ∈ O.drop (plX O x.addr O.length), x.addr < y.addr := by
  intro y hy
  obtain ⟨i, hi⟩ := List.getElem?_of_mem hy
  rw [List.getElem?_drop] at hi
  exact plX_up (k := O.length) (Nat.le_add_right _ _) ((List.getElem?_eq_some_iff.1 hi).1) hi
 have hdn : ∀ y ∈ O.take (plX O x.addr O.length), y.addr < x.addr := by
  intro y hy
  obtain ⟨i, hi⟩ := List.getElem?_of_mem hy
  rw [List.getElem?_take] at hi
  split at hi
  ·rename_i hlt
   have hd := plX_dn (O := O) (v := x.addr) (k := O.length) (by omega)
   have hle := plX_le O x.addr O.length
   have hz : O[plX O x.addr O.length - 1]? = some O[plX O x.addr O.length - 1] := List.getElem?_eq_getElem (by omega)
   rw [List.getD_eq_getElem?_getD, hz] at hd
   have hmem := List.mem_of_getElem? hz
   have h1 := hn _ hmem
   simp only [Option.getD_some] at hd
   by_cases e : i = plX O x.addr O.length - 1
   ·subst e
    rw [hz] at hi; cases hi
    omega
   ·have h2 := List.pairwise_iff_getElem.1 h i (plX O x.addr O.length - 1) ((List.getElem?_eq_some_iff.1 hi).1) (by omega) (by omega)
    rw [(List.getElem?_eq_some_iff.1 hi).2] at h2
    omega
  ·cases hi
 rw [List.append_assoc, List.pairwise_append]
 refine ⟨h.sublist (List.take_sublist _ _), ?_, fun a ha b hb => ?_⟩
 ·rw [List.singleton_append, List.pairwise_cons]
  exact ⟨hup, h.sublist (List.drop_sublist _ _)⟩
 ·have h1 := hdn a ha
  rw [List.singleton_append] at hb
  rcases List.mem_cons.1 hb with e | hb
  ·subst e; exact h1
  ·have := hup b hb; omega
end Go.Proofs.Ytnibnbcmnaflmaa
namespace Go.Proofs.Ytnibnbcmnaflmaa
open Go.RowKit
set_option linter.unusedVariables false
set_option linter.unusedSimpArgs false
set_option linter.unnecessarySimpa false
set_option maxRecDepth 100000
set_option maxHeartbeats 64000000
section
attribute [local irreducible] AL AW RG Fin C Cd Cio thenQ blockQ retQ
set_option maxRecDepth 100000
def thA (xs : List DXg) : AV := if thE xs xs.length = 0 then .tup [.t (.lst ((inR (thC xs xs.length) (thC xs xs.length).length).map tXg)), i64 0] else .tup [.nl, i64 3]
end
section
section
variable {P : Program} {ops : Array Oper} {Q : QS} {rest : List Oper} {o : Oper} {n : Fr} {T : Nat → AV} {heap : List Ob} {d : Nat}
theorem A_cap_nl (hw : wantedA n T ops o = true) (hd : o.dst = some d) {t : TypeId} {x : Operand} (ho : o.op = .call { callee := .builtin .cap, args := #[x], argTypes := #[t] }) {e : TypeId} (ht : P.underlying t = some (.slice e)) (hx : evA n T x = .nl)
  (k : AL P ops Q rest n (pu T d (.t (.v (.int .i64 0)))) heap) : AL P ops Q (o :: rest) n T heap := by
 refine AL.val hw hd (fun en a w ρ Z Y hR => ?_) k
 have hv := hR.eval x
 rw [hx] at hv
 generalize hax : a.eval x = vx at hv
 cases hv with
 | nl sa =>
 refine ⟨.int .i64 0, ?_, .t (.v rfl)⟩
 unfold execOp
 simp only [ho, resolve, invoke, builtin, Sem.run_bind, Sem.run_pure, Result.andThen_ok, List.map_toArray, List.map_cons, List.map_nil, hax]
 simp [Builtin.cap_, Result.andThen, run_underlying ht, goInt]
theorem A_cut_nl (hw : wantedA n T ops o = true) (hd : o.dst = some d) {t : TypeId} {x : Operand} {lo hi : Option Operand} (ho : o.op = .slice t x lo hi none) {e : TypeId} (ht : P.underlying t = some (.slice e)) {z : Option Value} {size bytes : Nat} (hI : (P.info? e).map (fun i => (i.zero, i.size, i.bytes)) = some (z, size, bytes))
  (hx : evA n T x = .nl) (hl : Bd n T lo 0 0) (hh : Bd n T hi 0 0) (k : AL P ops Q rest n (pu T d .nl) heap) : AL P ops Q (o :: rest) n T heap := by
 refine AL.val hw hd (fun en a w ρ Z Y hR => ?_) k
 have hv := hR.eval x
 rw [hx] at hv
 generalize hax : a.eval x = vx at hv
 cases hv with
 | nl sa =>
 exact ⟨_, val_of (s := Instr.sliceAt t (a.eval x) (lo.map a.eval) (hi.map a.eval) none) (by unfold execOp; rw [ho]; rfl) (cut_run (l := 0) (h := 0) hR ht hI hax (Nat.le_refl _) hl hh (Nat.le_refl _) (Nat.le_refl _)), .nl _⟩
theorem A_append_z (hw : wantedA n T ops o = true) (hd : o.dst = some d) {s x : Operand} {t t2 : TypeId} (ho : o.op = .call { callee := .builtin .append, args := #[s, x], argTypes := #[t, t2] }) {e : TypeId} (ht : P.underlying t = some (.slice e)) {kn : IntKind} (ht2 : P.underlying t2 = some (.int kn))
  {az : List AV} {size bytes : Nat} (hz : ∃ z b, (P.info? e).map (fun i => (i.zero, i.size, i.bytes)) = some (some z, size, b) ∧ (ofConst z).flat = some az ∧ z.cells.size = size ∧ b = bytes) {zs : List Tr} (hzs : trsA az = some zs) (h0 : 0 < size)
  (hs : evA n T s = .nl) {C : Int} (hx : evA n T x = .t (.v (.int .i64 C))) (m : Nat) (hC : C = (m : Int)) (hm0 : 0 < m) (b1 : m ≤ maxLen) (b2 : m * bytes ≤ 140737488355328) {els' : List (List Tr)} (he : List.replicate m zs = els')
  {heap' : List Ob} {N : Nat} (hat : AtL heap N [.row 0 e size els'] heap') (k : AL P ops Q rest n (pu T d (.sl N 0 m)) heap') : AL P ops Q (o :: rest) n T heap := by
 subst hC he
 obtain ⟨z, b, hI, hfl, hcs, rfl⟩ := hz
 refine AL.act hw hd (fun en a w ρ Z Y hR => ?_) k
 obtain ⟨inf, hin, hz', hsz, hby⟩ := info_of hI
 subst hsz hby
 have hrep := hR.ok.rep
 have hv := hR.eval s
 rw [hs] at hv
 have hvx := hR.eval x
 rw [hx] at hvx
 generalize hax : a.eval s = vx at hv
 generalize hal : a.eval x = vl at hvx
 cases hv with
 | nl sa =>
 cases hvx with
 | t h => cases h with
  | v h =>
  have hb1 : m ≤ 9223372036854775807 := by simp only [maxLen] at b1; omega
  have hr := Go.Lib.run_append_grow_zeros (P := P) w t t2 o.type e inf z .i64 kn ht ht2 hin hz' sa 0 0 [] (by cases sa <;> simp [Builtin.firstCells, loadCells, loadCellsFrom, run_firstCells_none]) m hm0 h0 (by omega) (by omega) (by omega) (growslice_fits (by omega) (by rw [Nat.zero_add]; exact b2))
  have e0 : ([] : List Value).toArray = #[] := rfl
  simp only [Nat.zero_add, e0, Array.empty_append] at hr
  generalize hG : grownCap w m 0 e = G at hr
  have hge : m ≤ G := by have := grownCap_ge w m 0 e; omega
  have hcm : G ≤ maxLen := by have := grownCap_le_maxLen w m 0 e b1; omega
  generalize hW : w.drew.alloc (.cells (Builtin.zeroCells z.cells m ++ Builtin.zeroCells z.cells (G - m)) e) = w' at hr
  obtain ⟨us, u1, u2, u3⟩ := (val_ofConst (Kn := Kn heap) (ρ := ρ) (w := w') (Z := Z) (Y := Y) z).flat hfl
  obtain ⟨q1, q2⟩ := trsA_open hzs u2
  have hus : us.length = inf.size := by rw [← hcs, u1]; simp
  have hflat : (Builtin.zeroCells z.cells m).toList = (List.replicate m us).flatten := by
   have e1 : Builtin.zeroCells z.cells m = madeCells z.cells (m * inf.size) := by
    unfold Builtin.zeroCells madeCells; rw [hcs]
   rw [e1]
   have := made_flat (α := Unit) (enc := fun _ => us) (size := inf.size) (z := z.cells) (x := ()) (by rw [u1]) hus m
   rw [this, List.flatMap_def, List.map_replicate]
  have hsize : w.heap.size ≤ w'.heap.size := by subst hW; simp
  have h3 : Same3 w w' := by subst hW; exact ⟨rfl, rfl, rfl⟩
  have hsame : ∀ b, b < w.heap.size → w'.heap[b]? = w.heap[b]? := fun b hb => by subst hW; exact heap_alloc_old w.drew _ hb
  have hnew : w'.heap[w.heap.size]? = some (.cells (Builtin.zeroCells z.cells m ++ Builtin.zeroCells z.cells (G - m)) e (0, 0)) := by subst hW; exact heap_alloc_new w.drew _
  have hlen : ((List.replicate m us).flatten).length = m * inf.size := by rw [← hflat, Array.length_toList, size_zeroCells, hcs]
  have hres : (Res.row (some ⟨w.heap.size, 0, none⟩) m G e inf.size ((List.replicate m us).flatten)).holds 0 w' := by
   refine .inr ⟨by omega, hlen, .inr ⟨w.heap.size, G, _, rfl, Nat.zero_le _, hnew, hge, hcm, ?_, ?_⟩⟩
   ·simp only [Array.size_append, size_zeroCells, hcs, ← Nat.add_mul]
    congr 1; omega
   ·rw [Array.toList_append, hflat, ← hlen]
    exact List.take_left
  obtain ⟨ρ', k1, k2, k3, k4⟩ := hR.ok.push1 (o := .row 0 e inf.size (List.replicate m zs)) hat (w' := w') (pl := ⟨some ⟨w.heap.size, 0, none⟩, G, inf.size⟩) h3 hsize hsame
   (fun ρ' hN hρ => ⟨by rw [hN], _, Elems.replicate (by rw [q1, hus]) hus q2 m, by rw [hN, List.length_replicate]; exact hres⟩)
   (fun b hb hb' => by
    simp at hb; subst hb
    exact ⟨Nat.le_refl _, by subst hW; simp⟩)
  refine ⟨.slice (some ⟨w.heap.size, 0, none⟩) m G, w', ρ', Z, Y, ?_, k1, k2, ?_⟩
  ·unfold execOp
   simp only [ho, resolve, invoke, builtin, Sem.run_bind, Sem.run_pure, Result.andThen_ok, List.map_toArray, List.map_cons, List.map_nil, hax, hal, hr]
  ·have := Val.sl (Kn := Kn heap') (ρ := ρ') (w := w') (Z := Z) (Y := Y) (i := N) (k := 0) (n := m) ⟨_, hat.one, Nat.le_refl _⟩ (by rw [k3]; exact hge) (by rw [k3]; intro e; cases e)
   rw [k3] at this
   exact this
end
end
section
theorem row_take {w : World} {a : Option Addr} {n c : Nat} {E : TypeId} {s : Nat} {xs : List Value} (h : (Res.row a n c E s xs).holds 0 w) (m : Nat) (hm : m ≤ n) : (Res.row a m c E s (xs.take (m * s))).holds 0 w := by
 rcases h with ⟨h1, h2, h3⟩ | ⟨h1, h2⟩
 ·subst h2 h3
  obtain rfl : m = 0 := by omega
  exact .inl ⟨h1, rfl, by simp⟩
 ·refine .inr ⟨h1, ?_⟩
  obtain ⟨g1, g2⟩ := h2
  have hms : m * s ≤ n * s := Nat.mul_le_mul_right _ hm
  refine ⟨by rw [List.length_take]; omega, ?_⟩
  rcases g2 with ⟨e1, e2⟩ | ⟨g, cap, cur, e1, e2, e3, e4, e5, e6, e7⟩
  ·simp only [Value.slice.injEq] at e1
   omega
  ·simp only [Value.slice.injEq] at e1
   obtain ⟨rfl, _, rfl⟩ := e1
   exact .inr ⟨g, c, cur, rfl, e2, e3, by omega, e5, e6, by rw [← e7, List.take_take, Nat.min_eq_left hms]⟩
theorem Wk.shrink {n : Fr} {T : Nat → AV} {heap : List Ob} (i m : Nat) {k : Nat} {E : TypeId} {s : Nat} {els : List (List Tr)} (hi : heap[i]? = some (.row k E s els)) (hm : m ≤ els.length) {heap' : List Ob} (hh : heap.set i (.row k E s (els.take m)) = heap') : Wk n T heap T heap' := by
 subst hh
 rintro e a w ⟨ρ, Z, Y, hR⟩
 obtain ⟨h1, xs, h2, h3⟩ := hR.ok.rep.obs i _ hi
 have hl : (els.take m).length = m := by rw [List.length_take]; omega
 have hok : Ok e (heap.set i (.row k E s (els.take m))) w ρ Z Y := hR.ok.turn hi (Nat.le_refl _) (fun _ _ _ => rfl) ⟨rfl, rfl, rfl⟩ (Nat.le_refl _) (fun _ _ _ => rfl) ⟨h1, _, h2.take m, by rw [hl]; exact row_take h3 m hm⟩ (fun b hb => .inl hb)
 exact ⟨ρ, Z, Y, hR.move hok fun x v hv => hR.ok.rep.val (fun j q hj => ⟨hj.set hi (by exact Nat.le_refl _), rfl⟩) (fun _ h => h) (fun b hb => ⟨hb, rfl⟩) hv⟩
section
variable {P : Program} {ops : Array Oper} {Q : QS} {rest : List Oper} {o : Oper} {n : Fr} {T : Nat → AV} {heap : List Ob} {d : Nat}
theorem AL.eff {heap' : List Ob} (hw : wantedA n T ops o = true) (hd : o.dst = none)
  (h : ∀ e a w ρ Z Y, Rp e ⟨n, T, heap⟩ a w ρ Z Y → ∃ v w' ρ' Z' Y', (execOp a.eval o).run P w = .ok (.value v) w' ∧ Ok e heap' w' ρ' Z' Y' ∧ (∀ x v, Val (Kn heap) ρ w Z Y x v → Val (Kn heap') ρ' w' Z' Y' x v))
  (k : AL P ops Q rest n T heap') : AL P ops Q (o :: rest) n T heap := by
 rintro e a w ⟨ρ, Z, Y, hR⟩
 obtain ⟨v, w', ρ', Z', Y', h1, h2, h3⟩ := h e a w ρ Z Y hR
 refine wpList_val (hR.wanted hw) h1 (k e _ _ ⟨ρ', Z', Y', ?_⟩)
 rw [hd]
 exact hR.move h2 h3
theorem A_clear (hw : wantedA n T ops o = true) (hd : o.dst = none) {s : Operand} {t : TypeId} (ho : o.op = .call { callee := .builtin .clear, args := #[s], argTypes := #[t] }) {e : TypeId} (ht : P.underlying t = some (.slice e)) {z : Value} {size bytes : Nat} (hI : (P.info? e).map (fun i => (i.zero, i.size, i.bytes)) = some (some z, size, bytes)) (hz : z.cells.size = size) (h1 : z.cells.toList.all (·.oneCell') = true)
  {i k' off m : Nat} (hs : evA n T s = .sub i k' off m) {E : TypeId} {els : List (List Tr)} (hi : heap[i]? = some (.row k' E size els)) (hm : off + m = els.length) {heap' : List Ob} (hh : heap.set i (.row k' E size (els.take off)) = heap') (k : AL P ops Q rest n T heap') : AL P ops Q (o :: rest) n T heap := by
 subst hh
 refine AL.eff hw hd (fun en a w ρ Z Y hR => ?_) k
 obtain ⟨g1, xs, g2, g3⟩ := hR.ok.rep.obs i _ hi
 have hv := hR.eval s
 rw [hs] at hv
 generalize hax : a.eval s = vx at hv
 obtain ⟨inf, hin, hzz, _, _⟩ := info_of hI
 have hzero : (zeroValue e).run P w = .ok z w := by simp [zeroValue, typeInfo, hin, hzz]
 have hl : (els.take off).length = off := by rw [List.length_take]; omega
 cases hv with
 | sub hk hn hmx h0 ha =>
 rename_i da cq
 by_cases hm0 : m = 0
 ·subst hm0
  have hok : Ok en (heap.set i (.row k' E size (els.take off))) w ρ Z Y := hR.ok.turn hi (Nat.le_refl _) (fun _ _ _ => rfl) ⟨rfl, rfl, rfl⟩ (Nat.le_refl _) (fun _ _ _ => rfl) ⟨g1, _, g2.take off, by rw [hl]; exact row_take g3 off (by omega)⟩ (fun b hb => .inl hb)
  refine ⟨.tuple #[], w, ρ, Z, Y, ?_, hok, fun x v hv => hR.ok.rep.val (fun j q hj => ⟨hj.set hi (by exact Nat.le_refl _), rfl⟩) (fun _ h => h) (fun b hb => ⟨hb, rfl⟩) hv⟩
  unfold execOp
  cases da <;> simp [ho, hax, resolve, invoke, builtin, Builtin.clear_, run_underlying ht, Result.andThen]
 ·obtain rfl := ha hm0
  rcases g3 with ⟨_, hn0, _⟩ | ⟨hcp, hown⟩
  ·omega
  rcases hown.2 with ⟨he, hn0⟩ | ⟨g, cap, cur, he, hbg, hg, hnc, hcm, hcs, htake⟩
  ·omega
  simp only [Value.slice.injEq] at he
  obtain ⟨hra, _, hrc⟩ := he
  have hadd : (adr (ρ i k').a).add (off * (ρ i k').s) = ⟨g, off * size, none⟩ := by
   rw [hra, g1]
   show (⟨g, 0, none⟩ : Addr).add (off * size) = _
   rw [add_at]; simp
  obtain ⟨ys, hys⟩ : ∃ ys, (Builtin.zeroCells z.cells m).toList = ys := ⟨_, rfl⟩
  have hyl : ys.length = m * size := by rw [← hys]; simp [Builtin.zeroCells, hz]
  have hy1 : ∀ v ∈ ys, v.oneCell' = true := by
   intro v hv
   rw [← hys] at hv
   simp only [Builtin.zeroCells, Array.toList_map, Array.toList_range, List.mem_map, List.mem_range] at hv
   obtain ⟨q, hq, rfl⟩ := hv
   have hpos : 0 < z.cells.size := by
    rcases Nat.eq_zero_or_pos z.cells.size with h | h
    ·rw [h] at hq; omega
    ·exact h
   have hlt : q % z.cells.size < z.cells.size := Nat.mod_lt _ hpos
   rw [getElem!_pos z.cells _ hlt]
   exact List.all_eq_true.1 h1 _ (by rw [← Array.getElem_toList]; exact List.getElem_mem (by simpa using hlt))
  have hle : (off + m) * size ≤ cur.size := by rw [hcs]; exact Nat.mul_le_mul_right _ (by omega)
  rw [Nat.add_mul] at hle
  have hst := run_storeCells_at P g (off * size) E ys 0 cur w hg (by omega) hy1
  simp only [Nat.add_zero] at hst
  have hblk : (Ob.row k' E size els).blk ρ i = some g := by
   show (if (ρ i k').c = 0 then none else (ρ i k').a.map (·.block)) = some g
   rw [if_neg (by omega), hra]; rfl
  generalize hcur : (cur.toList.take (off * size) ++ ys ++ cur.toList.drop (off * size + ys.length)).toArray = cur' at hst
  have hsame : ∀ b', b' < w.heap.size → (Ob.row k' E size els).blk ρ i ≠ some b' → (w.setRow g cur').heap[b']? = w.heap[b']? := fun b' _ hne => setRow_other w g b' _ (fun e => hne (by rw [hblk, e]))
  have hzk : ∀ b, Z b → Z b ∧ (w.setRow g cur').heap[b]? = w.heap[b]? := fun b hb => ⟨hb, hsame b (hR.ok.rep.ylt b (hR.ok.rep.zy b hb)) (hR.ok.rep.notin hi (hR.ok.rep.zy b hb))⟩
  have hcs' : cur'.size = cur.size := by rw [← hcur]; simp only [List.size_toArray, List.length_append, List.length_take, List.length_drop, Array.length_toList]; omega
  have htk : cur'.toList.take (off * size) = xs.take (off * size) := by
   rw [← hcur, ← htake]
   have e1 : (cur.toList.take (off * size)).length = off * size := by rw [List.length_take, Array.length_toList]; omega
   have e2 : off * size ≤ els.length * size := Nat.mul_le_mul_right _ (by omega)
   rw [List.append_assoc, List.take_take, Nat.min_eq_left e2]
   conv => lhs; rw [List.take_append_of_le_length (by omega), List.take_of_length_le (by omega)]
  have hos : off * size ≤ els.length * size := Nat.mul_le_mul_right _ (by omega)
  have hrow : (Res.row (ρ i k').a (els.take off).length (ρ i k').c E size (xs.take (off * size))).holds 0 (w.setRow g cur') := by
   rw [hl]
   exact .inr ⟨hcp, ⟨by rw [List.length_take, hown.1]; omega, .inr ⟨g, cap, cur', by rw [hra, hrc], hbg, setRow_heap w g cur _ E _ hg, by omega, hcm, by rw [hcs', hcs], htk⟩⟩⟩
  have hok : Ok en (heap.set i (.row k' E size (els.take off))) (w.setRow g cur') ρ Z Y :=
   hR.ok.turn (w' := w.setRow g cur') (o' := .row k' E size (els.take off)) hi (Nat.le_refl _) (fun _ _ _ => rfl) ⟨rfl, rfl, rfl⟩ (by simp) hsame ⟨g1, xs.take (off * size), (g2.take off).mono (fun _ _ h => h.mono hzk), hrow⟩ (fun b hb => .inl hb)
  refine ⟨.tuple #[], w.setRow g cur', ρ, Z, Y, ?_, hok, fun x v hv => hR.ok.rep.val (fun j q hj => ⟨hj.set hi (by exact Nat.le_refl _), rfl⟩) (fun _ h => h) (fun b hb => ⟨hb, hsame b (hR.ok.rep.ylt b hb) (hR.ok.rep.notin hi hb)⟩) hv⟩
  unfold execOp
  obtain ⟨m', rfl⟩ : ∃ m', m = m' + 1 := ⟨m - 1, by omega⟩
  simp [ho, hax, resolve, invoke, builtin, Builtin.clear_, run_underlying ht, hzero, hys, hst, Result.andThen, hadd]
end
end
section
def ixF {α : Type} (p : α → Bool) : List α → Int
 | [] => -1
 | a :: l => if p a then 0 else if ixF p l < 0 then -1 else ixF p l + 1
theorem ixF_b {α : Type} (p : α → Bool) : ∀ l : List α, -1 ≤ ixF p l ∧ ixF p l < l.length
  | [] => by simp [ixF]
  | a :: l => by have := ixF_b p l; unfold ixF; simp only [List.length_cons]; repeat' split
                 all_goals omega
theorem ixF_at {α : Type} (p : α → Bool) : ∀ (l : List α) (j : Nat) (a : α), (∀ q, q < j → ∀ b, l[q]? = some b → p b = false) → l[j]? = some a → p a = true → ixF p l = j
 | [], j, a, _, h, _ => by simp at h
 | b :: l, 0, a, _, h, hp => by simp at h; subst h; simp [ixF, hp]
 | b :: l, j + 1, a, h0, h, hp => by
  have h1 := ixF_at p l j a (fun q hq c hc => h0 (q + 1) (by omega) c (by simpa using hc)) (by simpa using h) hp
  have h2 := h0 0 (by omega) b rfl
  unfold ixF
  rw [h2, h1]; simp; omega
theorem ixF_none {α : Type} (p : α → Bool) : ∀ l : List α, (∀ q : Nat, ∀ b, l[q]? = some b → p b = false) → ixF p l = -1
 | [], _ => rfl
 | b :: l, h0 => by
  have h1 := ixF_none p l (fun q c hc => h0 (q + 1) c (by simpa using hc))
  have h2 := h0 0 b rfl
  unfold ixF
  rw [h2, h1]; simp
theorem ixF_get {α : Type} (p : α → Bool) : ∀ l : List α, 0 ≤ ixF p l → ∃ a, l[(ixF p l).toNat]? = some a ∧ p a = true
 | [], h => by simp [ixF] at h
 | b :: l, h => by
  unfold ixF at h ⊢
  cases hp : p b
  ·simp only [hp, Bool.false_eq_true, if_false] at h ⊢
   by_cases h2 : ixF p l < 0
   ·rw [if_pos h2] at h; omega
   ·rw [if_neg h2] at h ⊢
    obtain ⟨a, ha, hq⟩ := ixF_get p l (by omega)
    refine ⟨a, ?_, hq⟩
    rw [show (ixF p l + 1).toNat = (ixF p l).toNat + 1 by omega]; simpa using ha
  ·exact ⟨b, by simp, hp⟩
theorem ixF_yes {α : Type} (p : α → Bool) {l : List α} {q : Nat} {a : α} (h : l[q]? = some a) (hp : p a = true) : 0 ≤ ixF p l := by
 by_cases h0 : 0 ≤ ixF p l
 ·exact h0
 ·exfalso
  have hb := (ixF_b p l).1
  suffices h : ∀ (l : List α) (q : Nat), l[q]? = some a → ixF p l ≠ -1 by exact h l q ‹_› (by omega)
  intro l
  induction l with
  | nil => intro q h; simp at h
  | cons b l ih =>
   intro q h
   unfold ixF
   cases q with
   | zero => simp at h; subst h; simp [hp]
   | succ q =>
    have h1 := ih q (by simpa using h)
    have h2 := (ixF_b p l).1
    repeat' split
    all_goals omega
def w0 : DWait := ⟨false, 0, 0, []⟩
structure FS where
 th : Int
 wh : Int
 ok : Bool
end
section
attribute [local irreducible] AL AW RG Fin C Cd Cio thenQ blockQ retQ
set_option maxRecDepth 100000
theorem ixF_any {α : Type} (p : α → Bool) (l : List α) : decide (0 ≤ ixF p l) = l.any p := by
 cases h : l.any p
 ·refine decide_eq_false fun h2 => ?_
  obtain ⟨a, ha, hp⟩ := ixF_get p l h2
  rw [List.any_eq_false] at h
  exact h a (List.mem_of_getElem? ha) hp
 ·obtain ⟨a, ha, hp⟩ := List.any_eq_true.1 h
  obtain ⟨q, hq⟩ := List.getElem?_of_mem ha
  exact decide_eq_true (ixF_yes p hq hp)
theorem idxFI_c (f : FuncId) (fi cap : List AV) (p : Int → Bool) (l : List Int) (hg : ∀ c ∈ l, CV Try.prog (.fn (.func f) fi cap) [i64 c] (.t (.v (.bool (p c)))) []) (hup : upB (keepG 0) (.fn (.func f) fi cap) = .fn (.func f) fi cap)
  (hl : l.length ≤ 1152921504606846976) : Cd Try.prog 126 [.ln (l.map tI), .fn (.func f) fi cap] (i64 (ixF p l)) [] := by
 have h1 : (l.map tI).length = l.length := List.length_map _
 refine Cd.enter' Try.func126 rfl Try.ntmps126 rfl ?_
 repeat' (first | refine uA ?_ | refine uC ?_ | fail)
 refine AW.loopP (fun (q : Nat) => q ≤ l.length ∧ ∀ j, j < q → ∀ b, l[j]? = some b → p b = false) (fun (q : Nat) => (pu (pu (pu (pu (fun _ => .any) 0 (.ln (l.map tI))) 1 (.fn (.func f) fi cap)) 7 (i64 (l.map tI).length)) 8 (i64 q))) (fun (q : Nat) => []) (fun (q : Nat) => l.length - q) (0) ?_ ?_ ?_
 ·exact ⟨Nat.zero_le _, fun j hj => by omega⟩
 ·exact Wk.cq 0
 ·rintro q ⟨h2, h3⟩
  by_cases hq : q < l.length
  ·obtain ⟨a, ha⟩ : ∃ a, l[q]? = some a := ⟨_, List.getElem?_eq_getElem hq⟩
   have c1 := hg a (List.mem_of_getElem? ha)
   cases hp : p a
   ·rw [hp] at c1
    repeat' (first | ((with_reducible refine kAL ?_); (first | (refine kL 11 rfl ?_; first | refine uV (c1) ?_) | refine uA ?_)) | refine uC ?_ | fail)
    all_goals first | (exfalso; omega) | skip
    refine ⟨q + 1, ⟨by omega, fun j hj b hb => ?_⟩, by omega, ?_⟩
    ·by_cases e : j = q
     ·subst e; rw [ha] at hb; cases hb; exact hp
     ·exact h3 j (by omega) b hb
    ·exact Wk.cq 0
   ·rw [hp] at c1
    rw [ixF_at p l q a h3 ha hp]
    repeat' (first | ((with_reducible refine kAL ?_); (first | (refine kL 11 rfl ?_; first | refine uV (c1) ?_) | refine uA ?_)) | refine uC ?_ | fail)
    all_goals first | (exfalso; omega) | (exact Fin.q Try.results126 (.cons (.tmp rfl) .nil) [])
  ·rw [ixF_none p l fun j b hb => h3 j (by have := get_lt hb; omega) b hb]
   repeat' (first | refine uA ?_ | refine uC ?_ | fail)
   all_goals first | (exfalso; omega) | (exact Fin.q Try.results126 (.cons (.tmp rfl) .nil) [])
theorem conFI_c (f : FuncId) (fi cap : List AV) (p : Int → Bool) (l : List Int) (hg : ∀ c ∈ l, CV Try.prog (.fn (.func f) fi cap) [i64 c] (.t (.v (.bool (p c)))) []) (hup : upB (keepG 0) (.fn (.func f) fi cap) = .fn (.func f) fi cap) (hps : ∀ heap sel, Pass heap sel (.fn (.func f) fi cap) (.fn (.func f) fi cap))
  (hl : l.length ≤ 1152921504606846976) : Cd Try.prog 124 [.ln (l.map tI), .fn (.func f) fi cap] (bo (l.any p)) [] := by
 have c1 := idxFI_c f fi cap p l hg hup hl
 rw [← ixF_any]
 refine Cd.enter' Try.func124 rfl Try.ntmps124 rfl ?_
 by_cases h : 0 ≤ ixF p l
 ·rw [decide_eq_true h]
  repeat' (first | ((with_reducible refine kAL ?_); (first | (refine kL 4042 rfl ?_; first | refine uK (c1) ?_) | refine uA ?_)) | refine uC ?_ | fail)
  all_goals first | (exfalso; omega) | (exact Fin.q Try.results124 (.cons (.tmp rfl) .nil) [])
 ·rw [decide_eq_false h]
  repeat' (first | ((with_reducible refine kAL ?_); (first | (refine kL 4042 rfl ?_; first | refine uK (c1) ?_) | refine uA ?_)) | refine uC ?_ | fail)
  all_goals first | (exfalso; omega) | (exact Fin.q Try.results124 (.cons (.tmp rfl) .nil) [])
end
end Go.Proofs.Ytnibnbcmnaflmaa
