/- Contracts of the functions of ref and stopgateref01, second part: next names, order, handles. -/
import Derived.Test.YtdneipibbdadcaaRef
namespace Go.Proofs.Ytdneipibbdadcaa
set_option linter.unusedVariables false
set_option linter.unusedSimpArgs false
set_option linter.unnecessarySimpa false
open Go.RowKit

theorem next_ref (i t last : Int) (w : World) :
    Calls Try.prog 102 #[.agg #[.int .i64 i, .int .i64 t], .int .i64 last] w fun e w' => e = .returned (.tuple #[.agg #[.int .i64 (nxI i t last), .int .i64 (nxT i t last)], .bool (nxOk i t last)]) ∧ Below w.heap.size w w' := by
  by_cases hy : 0 ≤ t ∧ t < last ∧ t < 4294967295 ∧ 0 ≤ i ∧ i ≤ 65534
  · have hn := Lib.hid (nx_yes hy)
    go_enter Try.func102, Try.ntmps102
    go_wp2_with fail
    all_goals (refine bodyPost_ret (v := _) (by simp [results, Try.results102, go_sem]; rfl) rfl ⟨?_, ?_⟩)
    all_goals try (repeat (first | exact Below.refl _ _ | exact Below.refl _ _ | refine Below.setCell ?_ (by first | omega | (simp; done) | (simp; omega)) _ | refine Below.alloc ?_ (by first | omega | (simp; done) | (simp; omega)) _ | refine Below.drew ?_))
    all_goals first | (exfalso; omega) | rw [hn.out.1, hn.out.2.1, hn.out.2.2]
  · have hn := Lib.hid (nx_no hy)
    go_enter Try.func102, Try.ntmps102
    go_wp2_with fail
    all_goals (refine bodyPost_ret (v := _) (by simp [results, Try.results102, go_sem]; rfl) rfl ⟨?_, ?_⟩)
    all_goals try (repeat (first | exact Below.refl _ _ | exact Below.refl _ _ | refine Below.setCell ?_ (by first | omega | (simp; done) | (simp; omega)) _ | refine Below.alloc ?_ (by first | omega | (simp; done) | (simp; omega)) _ | refine Below.drew ?_))
    all_goals first | (exfalso; omega) | rw [hn.out.1, hn.out.2.1, hn.out.2.2]

theorem next_any (i t last : Int) (w : World) :
    Calls Try.prog 100 #[.agg #[.int .i64 i, .int .i64 t], .int .i64 last] w fun e w' => e = .returned (.tuple #[.agg #[.int .i64 (nxI i t last), .int .i64 (nxT i t last)], .bool (nxOk i t last)]) ∧ Below w.heap.size w w' := by
  by_cases hy : 0 ≤ t ∧ t < last ∧ t < 4294967295 ∧ 0 ≤ i ∧ i ≤ 65534
  · have hn := Lib.hid (nx_yes hy)
    obtain ⟨y1, y2, y3, y4, y5⟩ := hy
    have hg : good i (t + 1) = true := good_iff.2 ⟨by omega, by omega, by omega, by omega⟩
    go_enter Try.func100, Try.ntmps100
    go_wp2_with (go_at_call 122; refine (good_any _ _ _).mono ?_; rintro e w1 ⟨rfl, hb⟩; obtain ⟨hc, hf⟩ := bcell hb; have hz : w.heap.size + 2 < w1.heap.size := by have := hb.size; simp at this; omega)
    all_goals (try have hbb : Below w.heap.size w w1 := ((((Below.refl _ _).alloc (Nat.le_refl _) _).alloc (by simp) _).alloc (by simp <;> omega) _).trans (hb.mono (by simp <;> omega)))
    all_goals first | (have _ := hb; (refine bodyPost_ret (v := _) (by simp [results, Try.results100, go_sem, hc]; rfl) rfl ⟨?_, ?_⟩)) | (refine bodyPost_ret (v := _) (by simp [results, Try.results100, go_sem]; rfl) rfl ⟨?_, ?_⟩)
    all_goals try (repeat (first | exact hbb | exact Below.refl _ _ | refine Below.setCell ?_ (by first | omega | (simp; done) | (simp; omega)) _ | refine Below.alloc ?_ (by first | omega | (simp; done) | (simp; omega)) _ | refine Below.drew ?_))
    all_goals try (repeat (first | exact Below.refl _ _ | exact Below.refl _ _ | refine Below.setCell ?_ (by first | omega | (simp; done) | (simp; omega)) _ | refine Below.alloc ?_ (by first | omega | (simp; done) | (simp; omega)) _ | refine Below.drew ?_))
    all_goals first | (exfalso; omega) | rw [hn.out.1, hn.out.2.1, hn.out.2.2]
  · have hn := Lib.hid (nx_no hy)
    go_enter Try.func100, Try.ntmps100
    go_wp2_with (go_at_call 122; refine (good_any _ _ _).mono ?_; rintro e w1 ⟨rfl, hb⟩; obtain ⟨hc, hf⟩ := bcell hb; have hz : w.heap.size + 2 < w1.heap.size := by have := hb.size; simp at this; omega)
    all_goals (try have hbb : Below w.heap.size w w1 := ((((Below.refl _ _).alloc (Nat.le_refl _) _).alloc (by simp) _).alloc (by simp <;> omega) _).trans (hb.mono (by simp <;> omega)))
    all_goals first | (have _ := hb; (refine bodyPost_ret (v := _) (by simp [results, Try.results100, go_sem, hc]; rfl) rfl ⟨?_, ?_⟩)) | (refine bodyPost_ret (v := _) (by simp [results, Try.results100, go_sem]; rfl) rfl ⟨?_, ?_⟩)
    all_goals try (repeat (first | exact hbb | exact Below.refl _ _ | refine Below.setCell ?_ (by first | omega | (simp; done) | (simp; omega)) _ | refine Below.alloc ?_ (by first | omega | (simp; done) | (simp; omega)) _ | refine Below.drew ?_))
    all_goals try (repeat (first | exact Below.refl _ _ | exact Below.refl _ _ | refine Below.setCell ?_ (by first | omega | (simp; done) | (simp; omega)) _ | refine Below.alloc ?_ (by first | omega | (simp; done) | (simp; omega)) _ | refine Below.drew ?_))
    all_goals first | (exfalso; omega) | (exfalso; have hg := good_iff.1 (show good i (t + 1) = true by simpa using ‹(!good i (t + 1)) = false›); omega) | rw [hn.out.1, hn.out.2.1, hn.out.2.2]

theorem slot_any (i t : Int) (w : World) :
    Calls Try.prog 104 #[.agg #[.int .i64 i, .int .i64 t]] w fun e w' => e = .returned (.agg #[.int .i64 i, .int .i64 t]) ∧ Below w.heap.size w w' := by
  go_enter Try.func104, Try.ntmps104
  go_wp2_with fail
  (refine bodyPost_ret (v := _) (by simp [results, Try.results104, go_sem]; rfl) rfl ⟨?_, ?_⟩)
  · rfl
  · (repeat (first | exact Below.refl _ _ | exact Below.refl _ _ | refine Below.setCell ?_ (by first | omega | (simp; done) | (simp; omega)) _ | refine Below.alloc ?_ (by first | omega | (simp; done) | (simp; omega)) _ | refine Below.drew ?_))
end Go.Proofs.Ytdneipibbdadcaa
