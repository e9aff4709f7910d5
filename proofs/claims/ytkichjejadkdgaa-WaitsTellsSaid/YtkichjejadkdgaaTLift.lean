/- From a contract over trees to a law's given statement. -/
import Derived.Test.YtkichjejadkdgaaTOpen
import Derived.Test.YtkichjejadkdgaaLift
import Derived.JoinedCond
import Derived.Deep.CondSized
import Derived.Lib.SmallJoins
namespace Go.Proofs.Ytkichjejadkdgaa
set_option linter.unusedVariables false
set_option linter.unusedSimpArgs false
set_option linter.unnecessarySimpa false
open Go.RowKit Go.ChangeShapes Go.WideShapes Go.ChangeAt Go.Joins Go.Deep
theorem own : ownKnob Try.prog.godebug = none := by kernel_rfl
theorem laidOut : laidOutB Try.prog = true := by kernel_rfl
def oldEnv (W : World) : Env := { W := W, D := fun b => W.heap.size ≤ b, H := [], ρ := fun _ _ => ⟨none, 0, 0⟩, Z := fun b => b < W.heap.size, Y := fun b => b < W.heap.size, big := fun _ h => h, yd := fun b h1 h2 => by omega }
/-- A law's contract: the call answers true, and old memory is as it was. -/
theorem Cd.law {P : Program} {f : FuncId} {args : List AV} (h : Cd P f args (.t (.v (.bool true))) []) {W : World} {vs : List Value} (hv : AVs (Val (Kn []) (oldEnv W).ρ W (oldEnv W).Z (oldEnv W).Y) args vs) :
    Calls P f vs.toArray W fun e W' => e = .returned (.bool true) ∧ Below W.heap.size W W' := by
  refine (h (oldEnv W) vs rfl ⟨fun i o hi => by simp [oldEnv] at hi, fun i j o o' b hi => by simp [oldEnv] at hi, fun i o b hi => by simp [oldEnv] at hi, fun b h => h, fun b h => h⟩ (fun i o b hi => by simp at hi) hv).mono ?_
  rintro en w' ⟨v, r, heap, ρ, Z, Y, rfl, ⟨rfl, rfl⟩, hok, hval⟩
  have e : v = .bool true := by
    cases hval with
    | t h => cases h; rfl
  subst e
  exact ⟨rfl, hok.os, hok.tape, hok.output, hok.size, fun k hk => hok.keep k (by simp only [oldEnv]; omega)⟩
theorem AVs.nil {R : AV → Value → Prop} : AVs R [] [] := ⟨rfl, fun j x u h => by simp at h⟩
theorem AVs.cons {R : AV → Value → Prop} {x : AV} {v : Value} {l : List AV} {us : List Value} (h : R x v) (k : AVs R l us) : AVs R (x :: l) (v :: us) := by
  refine ⟨by simp [k.len], fun j y u hj hu => ?_⟩
  cases j with
  | zero => simp at hj hu; subst hj hu; exact h
  | succ j => exact k.at_ j y u (by simpa using hj) (by simpa using hu)
theorem wt_of {H : Type} {P : Program} {ts us : List TypeId} {ds gs : List (DataW H)} (h : (DataW.weightsEach P (ts ++ us) (ds ++ gs)).all (· ≤ reachBytes) = true) {j : Nat} {t : TypeId} {d : DataW H} (ht : ts[j]? = some t) (hd : ds[j]? = some d) : ∀ m ∈ d.weights P t, m ≤ reachBytes := fun m hm => by
  have h1 : (ts ++ us)[j]? = some t := by rw [List.getElem?_append_left (get_lt ht)]; exact ht
  have h2 : (ds ++ gs)[j]? = some d := by rw [List.getElem?_append_left (get_lt hd)]; exact hd
  have := List.all_eq_true.1 h _ (DataW.weights_mem_each h1 h2 m hm)
  simpa using this
theorem bulk_of {H : Type} {ds : List (DataW H)} (h : Rows.uptoSmall H (ds ++ []) = true) : Rows.uptoBulkAll ds ≤ 1048576 := by
  rw [List.append_nil] at h
  exact of_decide_eq_true h
theorem i64_wf {x : Int} (h : (Lit.int .i64 x).wf = true) : -9223372036854775808 ≤ x ∧ x ≤ 9223372036854775807 := by have := bounds_i64 h; omega
theorem u64_wf {x : Int} (h : (Lit.int .u64 x).wf = true) : 0 ≤ x ∧ x ≤ 18446744073709551615 := by have := bounds_u64 h; omega
/-! less is asked -/
inductive Wa : AV → AV → Prop
  | any (x : AV) : Wa x .any
  | refl (x : AV) : Wa x x
  | agg {l l' : List AV} (h1 : l.length = l'.length) (h : ∀ (j : Nat) x y, l[j]? = some x → l'[j]? = some y → Wa x y) : Wa (.agg l) (.agg l')
inductive WaL : List AV → List AV → Prop
  | nil : WaL [] []
  | cons {x y : AV} {l l' : List AV} (h : Wa x y) (k : WaL l l') : WaL (x :: l) (y :: l')
theorem WaL.get {l l' : List AV} (h : WaL l l') : l.length = l'.length ∧ ∀ (j : Nat) x y, l[j]? = some x → l'[j]? = some y → Wa x y := by
  induction h with
  | nil => exact ⟨rfl, fun j x y h => by simp at h⟩
  | @cons x y l l' h k ih =>
    refine ⟨by simp [ih.1], fun j a b ha hb => ?_⟩
    cases j with
    | zero => simp at ha hb; subst ha hb; exact h
    | succ j => exact ih.2 j a b (by simpa using ha) (by simpa using hb)
theorem Wa.aggL {l l' : List AV} (h : WaL l l') : Wa (.agg l) (.agg l') := .agg h.get.1 h.get.2
theorem Wa.val {Kn : Nat → Nat → Prop} {ρ : Rho} {w : World} {Z Y : Nat → Prop} {x y : AV} (h : Wa x y) : ∀ {v : Value}, Val Kn ρ w Z Y x v → Val Kn ρ w Z Y y v := by
  induction h with
  | any x => intro v _; exact .any v
  | refl x => intro v h; exact h
  | @agg l l' h1 h ih =>
    intro v hv
    cases hv with
    | @agg _ us e ho hu =>
      refine .agg (h1.symm.trans e) ho fun j y u hj hu' => ?_
      have hl := get_lt hj
      rw [← h1] at hl
      exact ih j _ y (List.getElem?_eq_getElem hl) hj (hu j _ u (List.getElem?_eq_getElem hl) hu')
theorem Cd.weak {P : Program} {f : FuncId} {args args' : List AV} {r : AV} {L : List Ob} (h : Cd P f args' r L) (hw : WaL args args') : Cd P f args r L := fun e vs h1 h2 h3 h4 => by
  obtain ⟨l1, l2⟩ := hw.get
  refine h e vs h1 h2 h3 ⟨l1.symm.trans h4.len, fun j y u hj hu => ?_⟩
  have hl := get_lt hj
  rw [← l1] at hl
  exact (l2 j _ y (List.getElem?_eq_getElem hl) hj).val (h4.at_ j _ u (List.getElem?_eq_getElem hl) hu)
/-! the head's words: cheap for the kernel -/
theorem headD {α : Type} {l : List α} {x : α} (h : l.head? = some x) : ∃ r, l = x :: r := by
  cases l with
  | nil => cases h
  | cons y r => cases h; exact ⟨r, rfl⟩
theorem strip_cut (rest : List (List Char)) : stripLifts liftWords ("cut".toList :: rest) = ([], "cut".toList :: rest) := by
  simp [stripLifts, liftWords]
theorem mayEnter_cut {P : Program} (h : (behindMainWord (wordsSigns P.initOrder.toList)).head? = some "cut".toList) (h1 : P.laysLater = false) (h2 : P.bearsReflect = false) (h3 : P.doorFits [] = true) : P.mayEnter = true := by
  obtain ⟨rest, hr⟩ := headD h
  unfold Program.mayEnter
  rw [hr]
  simp only [strip_cut, h1, h2, h3]
  simp
theorem liftsFinal_cut {P : Program} (h : (behindMainWord (wordsSigns P.initOrder.toList)).head? = some "cut".toList) : P.liftsFinal = false := by
  obtain ⟨rest, hr⟩ := headD h
  unfold Program.liftsFinal Program.headLifts
  rw [hr]
  simp only [strip_cut]
  simp
theorem make_cut {P : Program} (h : (behindMainWord (wordsSigns P.initOrder.toList)).head? = some "cut".toList) : P.make = some .cut := by
  obtain ⟨rest, hr⟩ := headD h
  unfold Program.make
  rw [hr]
  simp
set_option maxRecDepth 100000 in
theorem cutHead : (behindMainWord (wordsSigns Try.prog.initOrder.toList)).head? = some "cut".toList := by
  have h := (congrArg String.toList (rfl : Try.prog.initOrder = String.ofList _)).trans String.toList_ofList
  rw [h]
  decide +kernel
theorem mayEnter_ok : Try.prog.mayEnter = true := mayEnter_cut cutHead (by kernel_rfl) (by kernel_rfl) (by kernel_rfl)
theorem liftsFinal_ok : Try.prog.liftsFinal = false := liftsFinal_cut cutHead
theorem make_ok : Try.prog.make = some .cut := make_cut cutHead
theorem and_mk {a b : Bool} (h : a = true) (k : b = true) : (a && b) = true := by simp [h, k]
end Go.Proofs.Ytkichjejadkdgaa
