/- Arguments of the laws of layer 1, opened. -/
import Derived.Test.YtefghbdecnbpjaaRows
import Derived.Test.YtefghbdecnbpjaaLift
import Derived.Lib.SmallJoins
namespace Go.Proofs.Ytefghbdecnbpjaa
set_option linter.unusedVariables false
set_option linter.unusedSimpArgs false
set_option linter.unnecessarySimpa false
open Go.ChangeShapes Go.WideShapes Go.ChangeAt Go.RowKit Go.Joins Go.Deep
theorem own : ownKnob Try.prog.godebug = none := by kernel_rfl
theorem laidOut : laidOutB Try.prog = true := by kernel_rfl
theorem u64_of {x : Int} (h : (Lit.int .u64 x).wf = true) : 0 ≤ x ∧ x < 18446744073709551616 := by have := bounds_u64 h; omega
theorem open_two {P : Program} {H : Type} {enc : TypeId × Value → H} {w : World} {base : Nat} {sp : Nat → Bool} {held : Bool} {r : Reach} {b0 : Nat} {t ti : TypeId} {f0 f1 : Field} {v : Value} {d : DataW H} {p : List MemPlace}
    (hs : P.underlying t = some (.struct #[f0, f1])) (hone : oneCellFields P #[f0, f1] = true) (hC : P.cellsOf t = 2) (h0 : f0.type = ti) (h1 : f1.type = ti) (hi : P.underlying ti = some (.int .i64))
    (hv : Value.okWide P w r b0 t v) (h : DataW.Trod enc P w base sp held t v d p) : ∃ a b : Int, v = .agg #[.int .i64 a, .int .i64 b] := by
  obtain ⟨c0, c1, y0, y1, m, rfl, rfl, rfl, hy0, hy1⟩ := open_agg2 hs hone hC hv h
  rw [h0] at hy0; rw [h1] at hy1
  obtain ⟨a, e0, rfl, wa⟩ := DataW.trod_int hi hy0
  obtain ⟨b, e1, rfl, wb⟩ := DataW.trod_int hi hy1
  simp at e0 e1
  subst e0 e1
  exact ⟨a, b, rfl⟩
theorem open_Ref {H : Type} {enc : TypeId × Value → H} {w : World} {base : Nat} {sp : Nat → Bool} {held : Bool} {r : Reach} {b0 : Nat} {v : Value} {d : DataW H} {p : List MemPlace}
    (hv : Value.okWide Try.prog w r b0 23 v) (h : DataW.Trod enc Try.prog w base sp held 23 v d p) : ∃ a b : Int, v = .agg #[.int .i64 a, .int .i64 b] :=
  open_two Try.underlying23 (by kernel_rfl) (by kernel_rfl) rfl rfl Try.underlying3 hv h
theorem open_Slot {H : Type} {enc : TypeId × Value → H} {w : World} {base : Nat} {sp : Nat → Bool} {held : Bool} {r : Reach} {b0 : Nat} {v : Value} {d : DataW H} {p : List MemPlace}
    (hv : Value.okWide Try.prog w r b0 31 v) (h : DataW.Trod enc Try.prog w base sp held 31 v d p) : ∃ a b : Int, v = .agg #[.int .i64 a, .int .i64 b] :=
  open_two Try.underlying31 (by kernel_rfl) (by kernel_rfl) rfl rfl Try.underlying3 hv h
end Go.Proofs.Ytefghbdecnbpjaa
