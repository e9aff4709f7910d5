/- Scalars over trees: sums, comparisons, conversions; slices that are typed out; what is frozen. No program in sight. -/
import Derived.Test.YtkichjejadkdgaaTCtl
import Derived.WalkSpells
import Derived.IntWalk
import Derived.Laws.Bits
namespace Go.Proofs.Ytkichjejadkdgaa
set_option linter.unusedVariables false
set_option linter.unusedSimpArgs false
set_option linter.unnecessarySimpa false
open Go.RowKit
def cvsA : List AV → Option (List Value)
  | [] => some []
  | .t (.v u) :: l => (cvsA l).map (u :: ·)
  | _ => none
def cvA : AV → Option Value
  | .t (.v u) => some u
  | .agg l => (cvsA l).map fun us => .agg us.toArray
  | _ => none
section
variable {w : World} {ρ : Rho} {Z Y : Nat → Prop} {Kn : Nat → Nat → Prop}
theorem cvsA_open : ∀ {l : List AV} {us vs : List Value}, cvsA l = some us → AVs (Val Kn ρ w Z Y) l vs → vs = us
  | [], us, vs, h, hv => by cases h; have := hv.len; exact List.eq_nil_of_length_eq_zero this.symm
  | x :: l, us, [], h, hv => by have := hv.len; simp at this
  | x :: l, us, v :: vs, h, hv => by
    unfold cvsA at h
    split at h
    · rename_i h1; cases h1
    · rename_i u l' h1
      cases h1
      cases hc : cvsA l with
      | none => rw [hc] at h; cases h
      | some ms =>
        rw [hc] at h; cases h
        have := hv.at_ 0 _ v rfl rfl
        cases this with
        | t h =>
          cases h
          have h5 := cvsA_open (us := ms) (vs := vs) hc ⟨by have := hv.len; simpa using this, fun j x u hj hu => hv.at_ (j + 1) x u (by simpa using hj) (by simpa using hu)⟩
          rw [h5]
    · cases h
theorem cvA_open {x : AV} {u v : Value} (h : cvA x = some u) (hv : Val Kn ρ w Z Y x v) : v = u := by
  cases hv <;> simp [cvA] at h
  · rename_i x h'
    cases x with
    | v => cases h; cases h'; rfl
    | lst => cases h
  · rename_i h1 ho hu
    obtain ⟨us, h2, h3⟩ := h
    rw [← h3, cvsA_open h2 ⟨h1, hu⟩]
end
section
variable {P : Program} {ops : Array Oper} {Q : QS} {rest : List Oper} {o : Oper} {n : Fr} {T : Nat → AV} {heap : List Ob} {d : Nat}
theorem A_bin (hw : wantedA n T ops o = true) (hd : o.dst = some d) (op : BinOp) (xt yt : TypeId) (x y : Operand) (ho : o.op = .binOp op xt x y yt) {u v : Value} (hx : cvA (evA n T x) = some u) (hy : cvA (evA n T y) = some v) {r : Value}
    (hr : ∀ w, (do eqGuard op xt x y u v; binOp op xt u v : Sem Value).run P w = .ok r w) (h1 : r.oneCell' = true) (k : AL P ops Q rest n (pu T d (.t (.v r))) heap) : AL P ops Q (o :: rest) n T heap := by
  refine AL.val hw hd (fun en a w ρ Z Y hR => ?_) k
  have e1 := cvA_open hx (hR.eval x)
  have e2 := cvA_open hy (hR.eval y)
  refine ⟨r, val_of (s := do eqGuard op xt x y (a.eval x) (a.eval y); binOp op xt (a.eval x) (a.eval y)) (by unfold execOp; rw [ho]) ?_, .t (.v h1)⟩
  rw [e1, e2]; exact hr w
theorem int_guard {op : BinOp} {xt : TypeId} {x y : Operand} {k k' : IntKind} {a b : Int} {P : Program} {w : World} {s : Sem Value} : (do eqGuard op xt x y (.int k a) (.int k' b); s : Sem Value).run P w = s.run P w := by
  unfold eqGuard
  cases op <;> simp [Result.andThen]
/-- Sums. -/
theorem A_add (hw : wantedA n T ops o = true) (hd : o.dst = some d) (xt yt : TypeId) (x y : Operand) (ho : o.op = .binOp .add xt x y yt) {k : IntKind} {a b : Int} (hx : evA n T x = .t (.v (.int k a))) (hy : evA n T y = .t (.v (.int k b))) {c : Int} (hc : k.wrap (a + b) = c)
    (k' : AL P ops Q rest n (pu T d (.t (.v (.int k c)))) heap) : AL P ops Q (o :: rest) n T heap := by
  subst hc
  exact A_bin hw hd _ _ _ _ _ ho (by rw [hx]; rfl) (by rw [hy]; rfl) (fun w => by rw [int_guard]; simp [binOp, Op.intArith]) rfl k'
theorem A_sub (hw : wantedA n T ops o = true) (hd : o.dst = some d) (xt yt : TypeId) (x y : Operand) (ho : o.op = .binOp .sub xt x y yt) {k : IntKind} {a b : Int} (hx : evA n T x = .t (.v (.int k a))) (hy : evA n T y = .t (.v (.int k b))) {c : Int} (hc : k.wrap (a - b) = c)
    (k' : AL P ops Q rest n (pu T d (.t (.v (.int k c)))) heap) : AL P ops Q (o :: rest) n T heap := by
  subst hc
  exact A_bin hw hd _ _ _ _ _ ho (by rw [hx]; rfl) (by rw [hy]; rfl) (fun w => by rw [int_guard]; simp [binOp, Op.intArith]) rfl k'
theorem A_mul (hw : wantedA n T ops o = true) (hd : o.dst = some d) (xt yt : TypeId) (x y : Operand) (ho : o.op = .binOp .mul xt x y yt) {k : IntKind} {a b : Int} (hx : evA n T x = .t (.v (.int k a))) (hy : evA n T y = .t (.v (.int k b))) {c : Int} (hc : k.wrap (a * b) = c)
    (k' : AL P ops Q rest n (pu T d (.t (.v (.int k c)))) heap) : AL P ops Q (o :: rest) n T heap := by
  subst hc
  exact A_bin hw hd _ _ _ _ _ ho (by rw [hx]; rfl) (by rw [hy]; rfl) (fun w => by rw [int_guard]; simp [binOp, Op.intArith]) rfl k'
theorem A_quo (hw : wantedA n T ops o = true) (hd : o.dst = some d) (xt yt : TypeId) (x y : Operand) (ho : o.op = .binOp .quo xt x y yt) {k : IntKind} {a b : Int} (hx : evA n T x = .t (.v (.int k a))) (hy : evA n T y = .t (.v (.int k b))) (hb : b ≠ 0) {c : Int} (hc : k.wrap (a.tdiv b) = c)
    (k' : AL P ops Q rest n (pu T d (.t (.v (.int k c)))) heap) : AL P ops Q (o :: rest) n T heap := by
  subst hc
  exact A_bin hw hd _ _ _ _ _ ho (by rw [hx]; rfl) (by rw [hy]; rfl) (fun w => by rw [int_guard]; simp [binOp, Op.intDiv, hb]) rfl k'
theorem A_rem (hw : wantedA n T ops o = true) (hd : o.dst = some d) (xt yt : TypeId) (x y : Operand) (ho : o.op = .binOp .rem xt x y yt) {k : IntKind} {a b : Int} (hx : evA n T x = .t (.v (.int k a))) (hy : evA n T y = .t (.v (.int k b))) (hb : b ≠ 0) {c : Int} (hc : a.tmod b = c)
    (k' : AL P ops Q rest n (pu T d (.t (.v (.int k c)))) heap) : AL P ops Q (o :: rest) n T heap := by
  subst hc
  exact A_bin hw hd _ _ _ _ _ ho (by rw [hx]; rfl) (by rw [hy]; rfl) (fun w => by rw [int_guard]; simp [binOp, Op.intDiv, hb]) rfl k'
def cmpR (op : BinOp) (a b : Int) : Option Bool := match op with
  | .eql => some (decide (a = b))
  | .neq => some (decide (a ≠ b))
  | .lss => some (decide (a < b))
  | .leq => some (decide (a ≤ b))
  | .gtr => some (decide (b < a))
  | .geq => some (decide (b ≤ a))
  | _ => none
theorem A_cmp (hw : wantedA n T ops o = true) (hd : o.dst = some d) (op : BinOp) (xt yt : TypeId) (x y : Operand) (ho : o.op = .binOp op xt x y yt) {k : IntKind} {a b : Int} (hx : evA n T x = .t (.v (.int k a))) (hy : evA n T y = .t (.v (.int k b))) {c : Bool} (hc : cmpR op a b = some c)
    (k' : AL P ops Q rest n (pu T d (.t (.v (.bool c)))) heap) : AL P ops Q (o :: rest) n T heap := by
  refine A_bin hw hd _ _ _ _ _ ho (by rw [hx]; rfl) (by rw [hy]; rfl) (fun w => ?_) rfl k'
  rw [int_guard]
  cases op <;> simp only [cmpR] at hc <;> cases hc <;> simp only [binOp, Op.intCmp, ne_eq, not_true_eq_false, if_false, Sem.run_pure]
  all_goals first | rfl | (by_cases h : a = b <;> simp [h])
theorem run_equalIn_bool {w : World} {t : TypeId} (ht : P.underlying t = some .bool) (dd : Nat) (a b : Bool) : (Op.equalIn (dd + 1) t (.bool a) (.bool b)).run P w = .ok (a == b) w := by
  simp [Op.equalIn, run_underlying ht, Result.andThen]
theorem guard_bool {op : BinOp} {xt : TypeId} {x y : Operand} {a b : Bool} {w : World} : (eqGuard op xt x y (.bool a) (.bool b)).run P w = .ok () w := by
  unfold eqGuard
  cases op <;> simp
theorem guard_slice {op : BinOp} {xt : TypeId} {x y : Operand} {a b : Option Addr} {l m c e : Nat} {w : World} : (eqGuard op xt x y (.slice a l c) (.slice b m e)).run P w = .ok () w := by
  unfold eqGuard
  cases op <;> simp
def bitsR (op : BinOp) : Bool := match op with | .and | .or | .xor | .andNot => true | _ => false
theorem A_bits (hw : wantedA n T ops o = true) (hd : o.dst = some d) (op : BinOp) (xt yt : TypeId) (x y : Operand) (ho : o.op = .binOp op xt x y yt) (hop : bitsR op = true) {k : IntKind} {a b : Int} (hx : evA n T x = .t (.v (.int k a))) (hy : evA n T y = .t (.v (.int k b))) {c : Int} (hc : bits op k a b = c)
    (k' : AL P ops Q rest n (pu T d (.t (.v (.int k c)))) heap) : AL P ops Q (o :: rest) n T heap := by
  subst hc
  refine A_bin hw hd _ _ _ _ _ ho (by rw [hx]; rfl) (by rw [hy]; rfl) (fun w => ?_) rfl k'
  rw [int_guard]
  cases op <;> simp [bitsR] at hop <;> simp [binOp, Op.intBits, bits]
theorem A_shl (hw : wantedA n T ops o = true) (hd : o.dst = some d) (xt yt : TypeId) (x y : Operand) (ho : o.op = .binOp .shl xt x y yt) {k k2 : IntKind} {a b : Int} (hx : evA n T x = .t (.v (.int k a))) (hy : evA n T y = .t (.v (.int k2 b))) (hb : 0 ≤ b) {c : Int} (hc : k.wrap (a * 2 ^ (min b.toNat k.bits)) = c)
    (k' : AL P ops Q rest n (pu T d (.t (.v (.int k c)))) heap) : AL P ops Q (o :: rest) n T heap := by
  subst hc
  refine A_bin hw hd _ _ _ _ _ ho (by rw [hx]; rfl) (by rw [hy]; rfl) (fun w => ?_) rfl k'
  rw [int_guard]
  simp only [binOp, Op.shift]
  rw [if_neg (by omega)]
  rfl
theorem A_shr (hw : wantedA n T ops o = true) (hd : o.dst = some d) (xt yt : TypeId) (x y : Operand) (ho : o.op = .binOp .shr xt x y yt) {k k2 : IntKind} {a b : Int} (hx : evA n T x = .t (.v (.int k a))) (hy : evA n T y = .t (.v (.int k2 b))) (hb : 0 ≤ b) {c : Int} (hc : a.fdiv (2 ^ (min b.toNat k.bits)) = c)
    (k' : AL P ops Q rest n (pu T d (.t (.v (.int k c)))) heap) : AL P ops Q (o :: rest) n T heap := by
  subst hc
  refine A_bin hw hd _ _ _ _ _ ho (by rw [hx]; rfl) (by rw [hy]; rfl) (fun w => ?_) rfl k'
  rw [int_guard]
  simp only [binOp, Op.shift]
  rw [if_neg (by omega)]
  rfl
theorem A_beq (hw : wantedA n T ops o = true) (hd : o.dst = some d) (xt yt : TypeId) (x y : Operand) (ho : o.op = .binOp .eql xt x y yt) (ht : P.underlying xt = some .bool) {a b : Bool} (hx : evA n T x = .t (.v (.bool a))) (hy : evA n T y = .t (.v (.bool b)))
    (k' : AL P ops Q rest n (pu T d (.t (.v (.bool (a == b))))) heap) : AL P ops Q (o :: rest) n T heap :=
  A_bin hw hd _ _ _ _ _ ho (by rw [hx]; rfl) (by rw [hy]; rfl) (fun w => by
    simp only [Sem.run_bind, guard_bool, Result.andThen_ok, binOp, Op.equal, Op.maxDepth, run_equalIn_bool ht 9999, Sem.run_pure]) rfl k'
theorem A_bne (hw : wantedA n T ops o = true) (hd : o.dst = some d) (xt yt : TypeId) (x y : Operand) (ho : o.op = .binOp .neq xt x y yt) (ht : P.underlying xt = some .bool) {a b : Bool} (hx : evA n T x = .t (.v (.bool a))) (hy : evA n T y = .t (.v (.bool b)))
    (k' : AL P ops Q rest n (pu T d (.t (.v (.bool (!(a == b)))))) heap) : AL P ops Q (o :: rest) n T heap :=
  A_bin hw hd _ _ _ _ _ ho (by rw [hx]; rfl) (by rw [hy]; rfl) (fun w => by
    simp only [Sem.run_bind, guard_bool, Result.andThen_ok, binOp, Op.equal, Op.maxDepth, run_equalIn_bool ht 9999, Sem.run_pure]) rfl k'
theorem A_not (hw : wantedA n T ops o = true) (hd : o.dst = some d) (xt : TypeId) (x : Operand) (ho : o.op = .unOp .not xt x) {a : Bool} (hx : evA n T x = .t (.v (.bool a))) (k' : AL P ops Q rest n (pu T d (.t (.v (.bool (!a))))) heap) : AL P ops Q (o :: rest) n T heap := by
  refine AL.val hw hd (fun en ac w ρ Z Y hR => ?_) k'
  have e1 := cvA_open (u := .bool a) (by rw [hx]; rfl) (hR.eval x)
  refine ⟨.bool (!a), val_of (s := Op.unary .not (ac.eval x)) (by unfold execOp; rw [ho]) ?_, .t (.v rfl)⟩
  rw [e1]; simp [Op.unary]
theorem A_neg (hw : wantedA n T ops o = true) (hd : o.dst = some d) (xt : TypeId) (x : Operand) (ho : o.op = .unOp .neg xt x) {k : IntKind} {a : Int} (hx : evA n T x = .t (.v (.int k a))) {c : Int} (hc : k.wrap (0 - a) = c) (k' : AL P ops Q rest n (pu T d (.t (.v (.int k c)))) heap) : AL P ops Q (o :: rest) n T heap := by
  subst hc
  refine AL.val hw hd (fun en ac w ρ Z Y hR => ?_) k'
  have e1 := cvA_open (u := .int k a) (by rw [hx]; rfl) (hR.eval x)
  refine ⟨_, val_of (s := Op.unary .neg (ac.eval x)) (by unfold execOp; rw [ho]) ?_, .t (.v rfl)⟩
  rw [e1]; simp [Op.unary, Op.intArith]
theorem A_conv (hw : wantedA n T ops o = true) (hd : o.dst = some d) (s t : TypeId) (x : Operand) (ho : o.op = .convert s t x) {ds : TypeDesc} (hs : P.underlying s = some ds) {kd : IntKind} (ht : P.underlying t = some (.int kd)) {k : IntKind} {a : Int} (hx : evA n T x = .t (.v (.int k a))) {c : Int} (hc : kd.wrap a = c)
    (k' : AL P ops Q rest n (pu T d (.t (.v (.int kd c)))) heap) : AL P ops Q (o :: rest) n T heap := by
  subst hc
  refine AL.val hw hd (fun en ac w ρ Z Y hR => ?_) k'
  have e1 := cvA_open (u := .int k a) (by rw [hx]; rfl) (hR.eval x)
  refine ⟨.int kd (kd.wrap a), val_of (s := convert s t (ac.eval x)) (by unfold execOp; rw [ho]) ?_, .t (.v rfl)⟩
  rw [e1]; simp [convert, run_underlying hs, run_underlying ht, Result.andThen, Conv.intToInt]
/-- The greatest, the least of two. -/
theorem A_max (hw : wantedA n T ops o = true) (hd : o.dst = some d) (tys : Array TypeId) (x y : Operand) (ho : o.op = .call { callee := .builtin .max, args := #[x, y], argTypes := tys }) {k k2 : IntKind} {a b : Int} (hx : evA n T x = .t (.v (.int k a))) (hy : evA n T y = .t (.v (.int k2 b)))
    (k' : AL P ops Q rest n (pu T d (.t (.v (.int k (max a b))))) heap) : AL P ops Q (o :: rest) n T heap := by
  refine AL.val hw hd (fun en ac w ρ Z Y hR => ?_) k'
  have e1 := cvA_open (u := .int k a) (by rw [hx]; rfl) (hR.eval x)
  have e2 := cvA_open (u := .int k2 b) (by rw [hy]; rfl) (hR.eval y)
  refine ⟨.int k (max a b), ?_, .t (.v rfl)⟩
  unfold execOp
  simp only [ho, resolve, invoke, builtin, Sem.run_bind, Sem.run_pure, Result.andThen_ok, List.map_toArray, List.map_cons, List.map_nil, e1, e2]
  simp [Builtin.max_, Builtin.max2, Result.andThen]
  split <;> omega
theorem A_min (hw : wantedA n T ops o = true) (hd : o.dst = some d) (tys : Array TypeId) (x y : Operand) (ho : o.op = .call { callee := .builtin .min, args := #[x, y], argTypes := tys }) {k k2 : IntKind} {a b : Int} (hx : evA n T x = .t (.v (.int k a))) (hy : evA n T y = .t (.v (.int k2 b)))
    (k' : AL P ops Q rest n (pu T d (.t (.v (.int k (min a b))))) heap) : AL P ops Q (o :: rest) n T heap := by
  refine AL.val hw hd (fun en ac w ρ Z Y hR => ?_) k'
  have e1 := cvA_open (u := .int k a) (by rw [hx]; rfl) (hR.eval x)
  have e2 := cvA_open (u := .int k2 b) (by rw [hy]; rfl) (hR.eval y)
  refine ⟨.int k (min a b), ?_, .t (.v rfl)⟩
  unfold execOp
  simp only [ho, resolve, invoke, builtin, Sem.run_bind, Sem.run_pure, Result.andThen_ok, List.map_toArray, List.map_cons, List.map_nil, e1, e2]
  simp [Builtin.min_, Builtin.min2, Result.andThen]
  split <;> omega
/-- Is a slice nil? Then it is empty. -/
theorem A_eqnil (hw : wantedA n T ops o = true) (hd : o.dst = some d) (t yt : TypeId) (x : Operand) {n' c' : Nat} (ho : o.op = .binOp .eql t x (.const (.slice none n' c')) yt) {e : TypeId} (ht : P.underlying t = some (.slice e)) {m : Nat} (hx : lenA (evA n T x) = some m)
    (k : ∀ b, (b = true → m = 0) → AL P ops Q rest n (pu T d (.t (.v (.bool b)))) heap) : AL P ops Q (o :: rest) n T heap := by
  rintro en a w ⟨ρ, Z, Y, hR⟩
  obtain ⟨sa, c, h1⟩ := lenA_open hx (hR.eval x)
  have hm : sa.isNone = true → m = 0 := fun h => by
    have hv := hR.eval x
    have hsa : sa = none := by cases sa <;> simp_all
    subst hsa
    rw [h1] at hv
    generalize evA n T x = y at hx hv
    generalize hq : Value.slice none m c = q at hv
    cases hv <;> simp [lenA] at hx
    · rename_i x h'
      cases x with
      | v => cases hx
      | lst els =>
        obtain ⟨a', c', s', xs, e1, h2, _, _⟩ := h'.open
        rw [← hq] at e1
        simp only [Value.slice.injEq] at e1
        obtain ⟨rfl, e2, rfl⟩ := e1
        rw [e2]; exact (h2.none rfl).1
    · omega
    · rename_i hr hz hn he
      simp only [Value.slice.injEq] at hq
      obtain ⟨rfl, rfl, rfl⟩ := hq
      exact (hr.none rfl).1
    · rename_i i k' hk hc h0
      simp only [Value.slice.injEq] at hq
      have := h0 hq.1.symm
      omega
    · rename_i hn hmx h0 ha
      simp only [Value.slice.injEq] at hq
      obtain ⟨rfl, rfl, rfl⟩ := hq
      exact (h0 rfl).1
  refine wpList_val (hR.wanted hw) (v := .bool sa.isNone) (w' := w) ?_ (k _ hm en _ _ ⟨ρ, Z, Y, ?_⟩)
  · refine val_of (s := do eqGuard .eql t x (.const (.slice none n' c')) (a.eval x) (a.eval (.const (.slice none n' c'))); binOp .eql t (a.eval x) (a.eval (.const (.slice none n' c')))) (by unfold execOp; rw [ho]) ?_
    rw [h1]
    show (do eqGuard .eql t x (.const (.slice none n' c')) (.slice sa m c) (.slice none n' c'); binOp .eql t (.slice sa m c) (.slice none n' c') : Sem Value).run P w = _
    simp only [Sem.run_bind, guard_slice, Result.andThen_ok]
    exact Lib.run_eql_slice_nil w t e sa m c n' c' ht
  · rw [hd]; exact hR.put d (.t (.v rfl))
end
end Go.Proofs.Ytkichjejadkdgaa
