/- Contracts of the functions of ref and stopgateref01 (names of nodes as words). -/
import Derived.Test.YtdneipibbdadcaaRows
import Derived.Test.YtdneipibbdadcaaLib
namespace Go.Proofs.Ytdneipibbdadcaa
set_option linter.unusedVariables false
set_option linter.unusedSimpArgs false
set_option linter.unnecessarySimpa false
open Go.RowKit

theorem good_any (i t : Int) (w : World) :
    Calls Try.prog 122 #[.agg #[.int .i64 i, .int .i64 t]] w fun e w' => e = .returned (.bool (good i t)) ∧ Below w.heap.size w w' := by
  go_enter Try.func122, Try.ntmps122
  go_wp2
  all_goals go_ret
  all_goals exact ⟨ret_bool (by unfold good; first | (symm; apply decide_eq_false; omega) | (apply decide_eq_decide.2; omega)), (Below.refl _ _).alloc (Nat.le_refl _) _⟩

theorem good_ref (i t : Int) (w : World) :
    Calls Try.prog 76 #[.agg #[.int .i64 i, .int .i64 t]] w fun e w' => e = .returned (.bool (good i t)) ∧ Below w.heap.size w w' := by
  go_enter Try.func76, Try.ntmps76
  go_wp2
  all_goals go_ret
  all_goals exact ⟨ret_bool (by unfold good; first | (symm; apply decide_eq_false; omega) | (apply decide_eq_decide.2; omega)), (Below.refl _ _).alloc (Nat.le_refl _) _⟩

theorem word_any (i t : Int) (w : World) :
    Calls Try.prog 110 #[.agg #[.int .i64 i, .int .i64 t]] w fun e w' => e = .returned (.int .u64 (word i t)) ∧ Below w.heap.size w w' := by
  go_enter Try.func110, Try.ntmps110
  go_wp2_with fail
  refine (good_any _ _ _).mono ?_
  rintro e w1 ⟨rfl, hb⟩
  obtain ⟨hc, hf⟩ := bcell hb
  go_wp2_with fail
  all_goals go_ret
  all_goals refine ⟨ret_int ?_, (((Below.refl _ _).alloc (Nat.le_refl _) _).trans (hb.mono (by simp)))⟩
  · exact (word_no (by simpa using ‹(!good i t) = true›)).symm
  · exact word_or (by simpa using ‹(!good i t) = false›)

theorem word_ref (i t : Int) (w : World) :
    Calls Try.prog 77 #[.agg #[.int .i64 i, .int .i64 t]] w fun e w' => e = .returned (.int .u64 (word i t)) ∧ Below w.heap.size w w' := by
  go_enter Try.func77, Try.ntmps77
  go_wp2_with fail
  refine (good_ref _ _ _).mono ?_
  rintro e w1 ⟨rfl, hb⟩
  obtain ⟨hc, hf⟩ := bcell hb
  go_wp2_with fail
  all_goals go_ret
  all_goals refine ⟨ret_int ?_, (((Below.refl _ _).alloc (Nat.le_refl _) _).trans (hb.mono (by simp)))⟩
  · exact (word_no (by simpa using ‹(!good i t) = true›)).symm
  · exact word_sum (by simpa using ‹(!good i t) = false›)

theorem read_any (x : Int) (h0 : 0 ≤ x) (h1 : x < 18446744073709551616) (w : World) :
    Calls Try.prog 112 #[.int .u64 x] w fun e w' => e = .returned (.tuple #[.agg #[.int .i64 (rdI x), .int .i64 (rdT x)], .bool (rdOk x)]) ∧ Below w.heap.size w w' := by
  have e0 : bits .and .u64 x 65535 = x % 65536 := and_mask 16 x 65535 h0 h1 rfl (by omega)
  have e1 : bits .and .u64 (x / 65536) 4294967295 = x / 65536 % 4294967296 := and_mask 32 (x / 65536) 4294967295 (by omega) (by omega) rfl (by omega)
  go_enter Try.func112, Try.ntmps112
  go_wp2_with fail
  refine (word_any _ _ _).mono ?_
  rintro e w1 ⟨rfl, hb⟩
  obtain ⟨hc, hf⟩ := bcell hb
  have hz : w.heap.size + 1 < w1.heap.size := by have := hb.size; simp at this; omega
  have hbb : Below w.heap.size w w1 := (((Below.refl _ _).alloc (Nat.le_refl _) _).alloc (by simp) _).trans (hb.mono (by simp; omega))
  go_wp2_with fail
  · obtain ⟨a, b, c⟩ := rd_no h0 h1 (.inr ‹_›)
    refine bodyPost_ret (v := .tuple #[.agg #[.int .i64 0, .int .i64 0], .bool false]) (by simp [results, Try.results112, go_sem, hc]) rfl ⟨by rw [a, b, c], ?_⟩
    repeat (first | exact hbb | refine Below.setCell ?_ (by simp) _)
  · obtain ⟨a, b, c⟩ := rd_yes h0 h1 ‹_› ‹_›
    refine bodyPost_ret (v := .tuple #[.agg #[.int .i64 (x % 65536 - 1), .int .i64 (x / 65536 % 4294967296)], .bool true]) (by simp [results, Try.results112, go_sem, hc]) rfl ⟨by rw [a, b, c], ?_⟩
    repeat (first | exact hbb | refine Below.setCell ?_ (by simp) _)
  · obtain ⟨a, b, c⟩ := rd_no h0 h1 (.inl ‹_›)
    refine bodyPost_ret (v := .tuple #[.agg #[.int .i64 0, .int .i64 0], .bool false]) (by simp [results, Try.results112, go_sem, hc]) rfl ⟨by rw [a, b, c], ?_⟩
    repeat (first | exact hbb | refine Below.setCell ?_ (by simp) _)

theorem read_ref (x : Int) (h0 : 0 ≤ x) (h1 : x < 18446744073709551616) (w : World) :
    Calls Try.prog 113 #[.int .u64 x] w fun e w' => e = .returned (.tuple #[.agg #[.int .i64 (rdI x), .int .i64 (rdT x)], .bool (rdOk x)]) ∧ Below w.heap.size w w' := by
  by_cases hy : x % 65536 ≠ 0 ∧ 1 ≤ x / 65536 ∧ x / 65536 ≤ 4294967295
  · obtain ⟨a, b, c⟩ := rd_ref_yes hy
    obtain ⟨y1, y2, y3⟩ := hy
    go_enter Try.func113, Try.ntmps113
    go_wp2_with fail
    all_goals first | (exfalso; omega) | (exfalso; rename_i hq; simp at hq; omega) | skip
    refine bodyPost_ret (v := .tuple #[.agg #[.int .i64 (x % 65536 - 1), .int .i64 (x / 65536)], .bool true]) (by simp [results, Try.results113, go_sem]) rfl ⟨by rw [a, b, c], ?_⟩
    repeat (first | exact Below.refl _ _ | refine Below.setCell ?_ (by simp) _ | refine Below.alloc ?_ (by simp) _)
  · obtain ⟨a, b, c⟩ := rd_ref_no hy
    go_enter Try.func113, Try.ntmps113
    go_wp2_with fail
    all_goals first | (exfalso; omega) | skip
    all_goals refine bodyPost_ret (v := .tuple #[.agg #[.int .i64 0, .int .i64 0], .bool false]) (by simp [results, Try.results113, go_sem]) rfl ⟨by rw [a, b, c], ?_⟩
    all_goals repeat (first | exact Below.refl _ _ | refine Below.setCell ?_ (by simp) _ | refine Below.alloc ?_ (by simp) _)
end Go.Proofs.Ytdneipibbdadcaa
