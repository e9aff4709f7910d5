/- Contracts of the functions of ref and stopgateref01, second part: next names, order, handles. -/
import Derived.Test.YtefghbdecnbpjaaRef
namespace Go.Proofs.Ytefghbdecnbpjaa
set_option linter.unusedVariables false
set_option linter.unusedSimpArgs false
set_option linter.unnecessarySimpa false
open Go.RowKit

theorem next_ref (i t last : Int) (w : World) :
    Calls Try.prog 17 #[.agg #[.int .i64 i, .int .i64 t], .int .i64 last] w fun e w' => e = .returned (.tuple #[.agg #[.int .i64 (nxI i t last), .int .i64 (nxT i t last)], .bool (nxOk i t last)]) ∧ Below w.heap.size w w' := by
  by_cases hy : 0 ≤ t ∧ t < last ∧ t < 4294967295 ∧ 0 ≤ i ∧ i ≤ 65534
  · have hn := Lib.hid (nx_yes hy)
    go_enter Try.func17, Try.ntmps17
    go_wp2_with fail
    all_goals (refine bodyPost_ret (v := _) (by simp [results, Try.results17, go_sem]; rfl) rfl ⟨?_, ?_⟩)
    all_goals try (repeat (first | exact Below.refl _ _ | exact Below.refl _ _ | refine Below.setCell ?_ (by first | omega | (simp; done) | (simp; omega)) _ | refine Below.alloc ?_ (by first | omega | (simp; done) | (simp; omega)) _ | refine Below.drew ?_))
    all_goals first | (exfalso; omega) | rw [hn.out.1, hn.out.2.1, hn.out.2.2]
  · have hn := Lib.hid (nx_no hy)
    go_enter Try.func17, Try.ntmps17
    go_wp2_with fail
    all_goals (refine bodyPost_ret (v := _) (by simp [results, Try.results17, go_sem]; rfl) rfl ⟨?_, ?_⟩)
    all_goals try (repeat (first | exact Below.refl _ _ | exact Below.refl _ _ | refine Below.setCell ?_ (by first | omega | (simp; done) | (simp; omega)) _ | refine Below.alloc ?_ (by first | omega | (simp; done) | (simp; omega)) _ | refine Below.drew ?_))
    all_goals first | (exfalso; omega) | rw [hn.out.1, hn.out.2.1, hn.out.2.2]

theorem next_any (i t last : Int) (w : World) :
    Calls Try.prog 16 #[.agg #[.int .i64 i, .int .i64 t], .int .i64 last] w fun e w' => e = .returned (.tuple #[.agg #[.int .i64 (nxI i t last), .int .i64 (nxT i t last)], .bool (nxOk i t last)]) ∧ Below w.heap.size w w' := by
  by_cases hy : 0 ≤ t ∧ t < last ∧ t < 4294967295 ∧ 0 ≤ i ∧ i ≤ 65534
  · have hn := Lib.hid (nx_yes hy)
    obtain ⟨y1, y2, y3, y4, y5⟩ := hy
    have hg : good i (t + 1) = true := good_iff.2 ⟨by omega, by omega, by omega, by omega⟩
    go_enter Try.func16, Try.ntmps16
    go_wp2_with (go_at_call 11; refine (good_any _ _ _).mono ?_; rintro e w1 ⟨rfl, hb⟩; obtain ⟨hc, hf⟩ := bcell hb; have hz : w.heap.size + 2 < w1.heap.size := by have := hb.size; simp at this; omega)
    all_goals (try have hbb : Below w.heap.size w w1 := ((((Below.refl _ _).alloc (Nat.le_refl _) _).alloc (by simp) _).alloc (by simp <;> omega) _).trans (hb.mono (by simp <;> omega)))
    all_goals first | (have _ := hb; (refine bodyPost_ret (v := _) (by simp [results, Try.results16, go_sem, hc]; rfl) rfl ⟨?_, ?_⟩)) | (refine bodyPost_ret (v := _) (by simp [results, Try.results16, go_sem]; rfl) rfl ⟨?_, ?_⟩)
    all_goals try (repeat (first | exact hbb | exact Below.refl _ _ | refine Below.setCell ?_ (by first | omega | (simp; done) | (simp; omega)) _ | refine Below.alloc ?_ (by first | omega | (simp; done) | (simp; omega)) _ | refine Below.drew ?_))
    all_goals try (repeat (first | exact Below.refl _ _ | exact Below.refl _ _ | refine Below.setCell ?_ (by first | omega | (simp; done) | (simp; omega)) _ | refine Below.alloc ?_ (by first | omega | (simp; done) | (simp; omega)) _ | refine Below.drew ?_))
    all_goals first | (exfalso; omega) | rw [hn.out.1, hn.out.2.1, hn.out.2.2]
  · have hn := Lib.hid (nx_no hy)
    go_enter Try.func16, Try.ntmps16
    go_wp2_with (go_at_call 11; refine (good_any _ _ _).mono ?_; rintro e w1 ⟨rfl, hb⟩; obtain ⟨hc, hf⟩ := bcell hb; have hz : w.heap.size + 2 < w1.heap.size := by have := hb.size; simp at this; omega)
    all_goals (try have hbb : Below w.heap.size w w1 := ((((Below.refl _ _).alloc (Nat.le_refl _) _).alloc (by simp) _).alloc (by simp <;> omega) _).trans (hb.mono (by simp <;> omega)))
    all_goals first | (have _ := hb; (refine bodyPost_ret (v := _) (by simp [results, Try.results16, go_sem, hc]; rfl) rfl ⟨?_, ?_⟩)) | (refine bodyPost_ret (v := _) (by simp [results, Try.results16, go_sem]; rfl) rfl ⟨?_, ?_⟩)
    all_goals try (repeat (first | exact hbb | exact Below.refl _ _ | refine Below.setCell ?_ (by first | omega | (simp; done) | (simp; omega)) _ | refine Below.alloc ?_ (by first | omega | (simp; done) | (simp; omega)) _ | refine Below.drew ?_))
    all_goals try (repeat (first | exact Below.refl _ _ | exact Below.refl _ _ | refine Below.setCell ?_ (by first | omega | (simp; done) | (simp; omega)) _ | refine Below.alloc ?_ (by first | omega | (simp; done) | (simp; omega)) _ | refine Below.drew ?_))
    all_goals first | (exfalso; omega) | (exfalso; have hg := good_iff.1 (show good i (t + 1) = true by simpa using ‹(!good i (t + 1)) = false›); omega) | rw [hn.out.1, hn.out.2.1, hn.out.2.2]

theorem slot_any (i t : Int) (w : World) :
    Calls Try.prog 18 #[.agg #[.int .i64 i, .int .i64 t]] w fun e w' => e = .returned (.agg #[.int .i64 i, .int .i64 t]) ∧ Below w.heap.size w w' := by
  go_enter Try.func18, Try.ntmps18
  go_wp2_with fail
  (refine bodyPost_ret (v := _) (by simp [results, Try.results18, go_sem]; rfl) rfl ⟨?_, ?_⟩)
  · rfl
  · (repeat (first | exact Below.refl _ _ | exact Below.refl _ _ | refine Below.setCell ?_ (by first | omega | (simp; done) | (simp; omega)) _ | refine Below.alloc ?_ (by first | omega | (simp; done) | (simp; omega)) _ | refine Below.drew ?_))

theorem less_any (i t j u : Int) (w : World) :
    Calls Try.prog 19 #[.agg #[.int .i64 i, .int .i64 t], .agg #[.int .i64 j, .int .i64 u]] w fun e w' => e = .returned (.bool (rless i t j u)) ∧ Below w.heap.size w w' := by
  go_enter Try.func19, Try.ntmps19
  go_wp2_with fail
  all_goals (refine bodyPost_ret (v := _) (by simp [results, Try.results19, go_sem]; rfl) rfl ⟨?_, ?_⟩)
  all_goals try (repeat (first | exact Below.refl _ _ | exact Below.refl _ _ | refine Below.setCell ?_ (by first | omega | (simp; done) | (simp; omega)) _ | refine Below.alloc ?_ (by first | omega | (simp; done) | (simp; omega)) _ | refine Below.drew ?_))
  · have : i ≠ j := by simpa using ‹(i != j) = true›
    exact ret_bool (by unfold rless; apply decide_eq_decide.2; omega)
  · have : i = j := by simpa using ‹(i != j) = false›
    exact ret_bool (by unfold rless; apply decide_eq_decide.2; omega)

theorem less_ref (i t j u : Int) (w : World) :
    Calls Try.prog 20 #[.agg #[.int .i64 i, .int .i64 t], .agg #[.int .i64 j, .int .i64 u]] w fun e w' => e = .returned (.bool (rless i t j u)) ∧ Below w.heap.size w w' := by
  go_enter Try.func20, Try.ntmps20
  go_wp2_with fail
  all_goals (refine bodyPost_ret (v := _) (by simp [results, Try.results20, go_sem]; rfl) rfl ⟨?_, ?_⟩)
  all_goals try (repeat (first | exact Below.refl _ _ | exact Below.refl _ _ | refine Below.setCell ?_ (by first | omega | (simp; done) | (simp; omega)) _ | refine Below.alloc ?_ (by first | omega | (simp; done) | (simp; omega)) _ | refine Below.drew ?_))
  all_goals exact ret_bool (by unfold rless; first | (apply decide_eq_decide.2; omega) | (symm; apply decide_eq_true; omega))

theorem handle_any (p g : Int) (w : World) :
    Calls Try.prog 23 #[.int .i64 p, .int .i64 g] w fun e w' => e = .returned (.int .i64 (hdl p g)) ∧ Below w.heap.size w w' := by
  go_enter Try.func23, Try.ntmps23
  go_wp2_with fail
  all_goals (refine bodyPost_ret (v := _) (by simp [results, Try.results23, go_sem]; rfl) rfl ⟨?_, ?_⟩)
  all_goals try (repeat (first | exact Below.refl _ _ | exact Below.refl _ _ | refine Below.setCell ?_ (by first | omega | (simp; done) | (simp; omega)) _ | refine Below.alloc ?_ (by first | omega | (simp; done) | (simp; omega)) _ | refine Below.drew ?_))
  all_goals exact ret_int (by unfold hdl; split <;> omega)

theorem handle_ref (p g : Int) (w : World) :
    Calls Try.prog 24 #[.int .i64 p, .int .i64 g] w fun e w' => e = .returned (.int .i64 (hdl p g)) ∧ Below w.heap.size w w' := by
  go_enter Try.func24, Try.ntmps24
  go_wp2_with fail
  all_goals (refine bodyPost_ret (v := _) (by simp [results, Try.results24, go_sem]; rfl) rfl ⟨?_, ?_⟩)
  all_goals try (repeat (first | exact Below.refl _ _ | exact Below.refl _ _ | refine Below.setCell ?_ (by first | omega | (simp; done) | (simp; omega)) _ | refine Below.alloc ?_ (by first | omega | (simp; done) | (simp; omega)) _ | refine Below.drew ?_))
  all_goals exact ret_int (by unfold hdl; split <;> omega)

theorem place_any (h : Int) (w : World) :
    Calls Try.prog 21 #[.int .i64 h] w fun e w' => e = .returned (.tuple #[.int .i64 (plP h), .int .i64 (plG h), .bool (plOk h)]) ∧ Below w.heap.size w w' := by
  go_enter Try.func21, Try.ntmps21
  go_wp2_with fail
  all_goals (refine bodyPost_ret (v := _) (by simp [results, Try.results21, go_sem]; rfl) rfl ⟨?_, ?_⟩)
  all_goals try (repeat (first | exact Below.refl _ _ | exact Below.refl _ _ | refine Below.setCell ?_ (by first | omega | (simp; done) | (simp; omega)) _ | refine Below.alloc ?_ (by first | omega | (simp; done) | (simp; omega)) _ | refine Below.drew ?_))
  all_goals by_cases hy : 8 ≤ h ∧ h ≤ 32767
  all_goals first | (exfalso; omega) | (have hn := pl_yes hy.1 hy.2; rw [hn.1, hn.2.1, hn.2.2]; done) | (have hn := pl_yes hy.1 hy.2; rw [hn.1, hn.2.1, hn.2.2, show h - h / 8 * 8 = h % 8 by omega]) | (have hn := pl_no hy; rw [hn.1, hn.2.1, hn.2.2])

theorem place_ref (h : Int) (w : World) :
    Calls Try.prog 22 #[.int .i64 h] w fun e w' => e = .returned (.tuple #[.int .i64 (plP h), .int .i64 (plG h), .bool (plOk h)]) ∧ Below w.heap.size w w' := by
  go_enter Try.func22, Try.ntmps22
  go_wp2_with fail
  all_goals (refine bodyPost_ret (v := _) (by simp [results, Try.results22, go_sem]; rfl) rfl ⟨?_, ?_⟩)
  all_goals try (repeat (first | exact Below.refl _ _ | exact Below.refl _ _ | refine Below.setCell ?_ (by first | omega | (simp; done) | (simp; omega)) _ | refine Below.alloc ?_ (by first | omega | (simp; done) | (simp; omega)) _ | refine Below.drew ?_))
  all_goals by_cases hy : 8 ≤ h ∧ h ≤ 32767
  all_goals first | (exfalso; omega) | (have hn := pl_yes hy.1 hy.2; rw [hn.1, hn.2.1, hn.2.2]; done) | (have hn := pl_yes hy.1 hy.2; rw [hn.1, hn.2.1, hn.2.2, show h - h / 8 * 8 = h % 8 by omega]) | (have hn := pl_no hy; rw [hn.1, hn.2.1, hn.2.2])
end Go.Proofs.Ytefghbdecnbpjaa
