/- The laws of layer 1 (ref), walked: each answers true. -/
import Derived.Test.YtefghbdecnbpjaaRefB
import Derived.Test.YtefghbdecnbpjaaChain
namespace Go.Proofs.Ytefghbdecnbpjaa
set_option linter.unusedVariables false
set_option linter.unusedSimpArgs false
set_option linter.unnecessarySimpa false
open Go.RowKit

theorem awake01 (w : World) : Calls Try.prog 15 #[] w fun e w' => e = .returned (.bool true) ∧ Below w.heap.size w w' := by
  have a1 : rdI 131076 = 3 := by decide
  have a2 : rdT 131076 = 2 := by decide
  have a3 : rdOk 131076 = true := by decide
  have a4 : nxOk 3 2 3 = true := by decide
  have a5 : nxT 3 2 3 = 3 := by decide
  have a6 : nxI 3 2 3 = 3 := by decide
  have a7 : nxOk 3 3 3 = false := by decide
  have a8 : word 3 2 = 131076 := by decide
  have a9 : hdl 1 1 = 9 := by decide
  go_enter Try.func15, Try.ntmps15
  go_wp2_with fail
  refine (read_any _ (by omega) (by omega) _).mono ?_
  rintro e w1 ⟨rfl, hb1⟩
  have hz1 := hb1.size
  (try simp only [World.size_alloc, World.size_setCell, World.size_drew] at hz1)
  obtain ⟨hc1, hf1⟩ := bcell hb1
  go_wp2_with fail
  refine (next_any _ _ _ _).mono ?_
  rintro e w2 ⟨rfl, hb2⟩
  have hz2 := hb2.size
  (try simp only [World.size_alloc, World.size_setCell, World.size_drew] at hz2)
  obtain ⟨hc2, hf2⟩ := bcell hb2
  have z2_0 : w1.heap.size < w2.heap.size := by omega
  have y2_0 : w1.heap.size ≤ w2.heap.size := by omega
  go_wp2_with fail
  refine (next_any _ _ _ _).mono ?_
  rintro e w3 ⟨rfl, hb3⟩
  have hz3 := hb3.size
  (try simp only [World.size_alloc, World.size_setCell, World.size_drew] at hz3)
  obtain ⟨hc3, hf3⟩ := bcell hb3
  have z3_0 : w1.heap.size < w3.heap.size := by omega
  have y3_0 : w1.heap.size ≤ w3.heap.size := by omega
  have z3_1 : w2.heap.size < w3.heap.size := by omega
  have y3_1 : w2.heap.size ≤ w3.heap.size := by omega
  go_wp2_with fail
  refine (word_any _ _ _).mono ?_
  rintro e w4 ⟨rfl, hb4⟩
  have hz4 := hb4.size
  (try simp only [World.size_alloc, World.size_setCell, World.size_drew] at hz4)
  obtain ⟨hc4, hf4⟩ := bcell hb4
  have z4_0 : w1.heap.size < w4.heap.size := by omega
  have y4_0 : w1.heap.size ≤ w4.heap.size := by omega
  have z4_1 : w2.heap.size < w4.heap.size := by omega
  have y4_1 : w2.heap.size ≤ w4.heap.size := by omega
  have z4_2 : w3.heap.size < w4.heap.size := by omega
  have y4_2 : w3.heap.size ≤ w4.heap.size := by omega
  go_wp2_with fail
  refine (handle_any _ _ _).mono ?_
  rintro e w5 ⟨rfl, hb5⟩
  have hz5 := hb5.size
  (try simp only [World.size_alloc, World.size_setCell, World.size_drew] at hz5)
  obtain ⟨hc5, hf5⟩ := bcell hb5
  have z5_0 : w1.heap.size < w5.heap.size := by omega
  have y5_0 : w1.heap.size ≤ w5.heap.size := by omega
  have z5_1 : w2.heap.size < w5.heap.size := by omega
  have y5_1 : w2.heap.size ≤ w5.heap.size := by omega
  have z5_2 : w3.heap.size < w5.heap.size := by omega
  have y5_2 : w3.heap.size ≤ w5.heap.size := by omega
  go_wp2_with fail
  (refine bodyPost_ret (v := _) (by simp [results, Try.results15, go_sem]; rfl) rfl ⟨?_, ?_⟩)
  · rfl
  · (repeat (first | exact Below.refl _ _ | refine Below.setCell ?_ (by first | omega | (simp; done) | (simp; omega)) _ | refine Below.alloc ?_ (by first | omega | (simp; done) | (simp; omega)) _ | refine Below.drew ?_ | (refine Below.trans ?_ (Below.mono (by assumption) (by first | omega | (simp; done) | (simp; omega))))))

theorem refWords_walk (i t x : Int) (h0 : 0 ≤ x) (h1 : x < 18446744073709551616) (w : World) :
    Calls Try.prog 3 #[.agg #[.int .i64 i, .int .i64 t], .int .u64 x] w fun e w' => e = .returned (.bool true) ∧ Below w.heap.size w w' := by
  go_enter Try.func3, Try.ntmps3
  go_wp2_with fail
  refine (read_any x h0 h1 _).mono ?_
  rintro e w1 ⟨rfl, hb1⟩
  have hz1 := hb1.size
  (try simp only [World.size_alloc, World.size_setCell, World.size_drew] at hz1)
  obtain ⟨hc1, hf1⟩ := bcell hb1
  have z1_0 : w.heap.size < w1.heap.size := by omega
  have y1_0 : w.heap.size ≤ w1.heap.size := by omega
  go_wp2_with fail
  refine (read_ref x h0 h1 _).mono ?_
  rintro e w2 ⟨rfl, hb2⟩
  have hz2 := hb2.size
  (try simp only [World.size_alloc, World.size_setCell, World.size_drew] at hz2)
  obtain ⟨hc2, hf2⟩ := bcell hb2
  have z2_0 : w.heap.size < w2.heap.size := by omega
  have y2_0 : w.heap.size ≤ w2.heap.size := by omega
  have z2_1 : w1.heap.size < w2.heap.size := by omega
  have y2_1 : w1.heap.size ≤ w2.heap.size := by omega
  go_wp2_with fail
  refine region_chain (by kernel_rfl) 26 [.val ?_, .val ?_, .val ?_, .val ?_, .val ?_, .val ?_, .val ?_, .val ?_, .val ?_, .val ?_, .val ?_, .val ?_, .val ?_, .val ?_, .val ?_, .val ?_, .val ?_, .val ?_, .val ?_, .val ?_, .val ?_, .val ?_, .val ?_, .val ?_, .val ?_, .val ?_] rfl (by decide +kernel) ?_
  rotate_left 26
  (refine Chain.pos _ rfl (fun w' hw' _ => ?_) ?_; focus (obtain ⟨hc', hf'⟩ := bcell hw'; have hz := hw'.size; simp only [World.size_alloc, World.size_setCell, World.size_drew] at hz; have z : w.heap.size < w'.heap.size := (by omega); have y : w.heap.size ≤ w'.heap.size := (by omega); have z : w1.heap.size < w'.heap.size := (by omega); have y : w1.heap.size ≤ w'.heap.size := (by omega); (go_wp2_with fail; first | (refine ⟨Below.refl _ _, ?_⟩; rfl) | rfl | exact ⟨Below.refl _ _, trivial⟩))); simp only [Act.put, List.setIfInBounds_toArray, List.set_cons_zero, List.set_cons_succ]
  (refine Chain.pos _ rfl (fun w' hw' _ => ?_) ?_; focus (obtain ⟨hc', hf'⟩ := bcell hw'; have hz := hw'.size; simp only [World.size_alloc, World.size_setCell, World.size_drew] at hz; have z : w.heap.size < w'.heap.size := (by omega); have y : w.heap.size ≤ w'.heap.size := (by omega); have z : w1.heap.size < w'.heap.size := (by omega); have y : w1.heap.size ≤ w'.heap.size := (by omega); (go_wp2_with fail; first | ((with_reducible refine (good_any _ _ _).mono ?_); rintro e w'' ⟨rfl, hb⟩; go_simp; first | rfl | (refine ⟨hb, ?_⟩; rfl))))); simp only [Act.put, List.setIfInBounds_toArray, List.set_cons_zero, List.set_cons_succ]
  (refine Chain.pos _ rfl (fun w' hw' _ => ?_) ?_; focus (obtain ⟨hc', hf'⟩ := bcell hw'; have hz := hw'.size; simp only [World.size_alloc, World.size_setCell, World.size_drew] at hz; have z : w.heap.size < w'.heap.size := (by omega); have y : w.heap.size ≤ w'.heap.size := (by omega); have z : w1.heap.size < w'.heap.size := (by omega); have y : w1.heap.size ≤ w'.heap.size := (by omega); (go_wp2_with fail; first | (refine ⟨Below.refl _ _, ?_⟩; rfl) | rfl | exact ⟨Below.refl _ _, trivial⟩))); simp only [Act.put, List.setIfInBounds_toArray, List.set_cons_zero, List.set_cons_succ]
  (refine Chain.pos _ rfl (fun w' hw' _ => ?_) ?_; focus (obtain ⟨hc', hf'⟩ := bcell hw'; have hz := hw'.size; simp only [World.size_alloc, World.size_setCell, World.size_drew] at hz; have z : w.heap.size < w'.heap.size := (by omega); have y : w.heap.size ≤ w'.heap.size := (by omega); have z : w1.heap.size < w'.heap.size := (by omega); have y : w1.heap.size ≤ w'.heap.size := (by omega); (go_wp2_with fail; first | ((with_reducible refine (good_ref _ _ _).mono ?_); rintro e w'' ⟨rfl, hb⟩; go_simp; first | rfl | (refine ⟨hb, ?_⟩; rfl))))); simp only [Act.put, List.setIfInBounds_toArray, List.set_cons_zero, List.set_cons_succ]
  (refine Chain.pos _ rfl (fun w' hw' _ => ?_) ?_; focus (obtain ⟨hc', hf'⟩ := bcell hw'; have hz := hw'.size; simp only [World.size_alloc, World.size_setCell, World.size_drew] at hz; have z : w.heap.size < w'.heap.size := (by omega); have y : w.heap.size ≤ w'.heap.size := (by omega); have z : w1.heap.size < w'.heap.size := (by omega); have y : w1.heap.size ≤ w'.heap.size := (by omega); (go_wp2_with fail; first | (refine ⟨Below.refl _ _, ?_⟩; rfl) | rfl | exact ⟨Below.refl _ _, trivial⟩))); simp only [Act.put, List.setIfInBounds_toArray, List.set_cons_zero, List.set_cons_succ]
  (refine Chain.pos _ rfl (fun w' hw' _ => ?_) ?_; focus (obtain ⟨hc', hf'⟩ := bcell hw'; have hz := hw'.size; simp only [World.size_alloc, World.size_setCell, World.size_drew] at hz; have z : w.heap.size < w'.heap.size := (by omega); have y : w.heap.size ≤ w'.heap.size := (by omega); have z : w1.heap.size < w'.heap.size := (by omega); have y : w1.heap.size ≤ w'.heap.size := (by omega); (go_wp2_with fail; first | (refine ⟨Below.refl _ _, ?_⟩; rfl) | rfl | exact ⟨Below.refl _ _, trivial⟩))); simp only [Act.put, List.setIfInBounds_toArray, List.set_cons_zero, List.set_cons_succ]
  first | (refine Chain.skip rfl ?_ ?_; (focus rfl); simp only [Act.put, List.setIfInBounds_toArray, List.set_cons_zero, List.set_cons_succ]) | ((refine Chain.pos _ rfl (fun w' hw' _ => ?_) ?_; focus (obtain ⟨hc', hf'⟩ := bcell hw'; have hz := hw'.size; simp only [World.size_alloc, World.size_setCell, World.size_drew] at hz; have z : w.heap.size < w'.heap.size := (by omega); have y : w.heap.size ≤ w'.heap.size := (by omega); have z : w1.heap.size < w'.heap.size := (by omega); have y : w1.heap.size ≤ w'.heap.size := (by omega); (go_wp2_with fail; first | (refine ⟨Below.refl _ _, ?_⟩; rfl) | rfl | exact ⟨Below.refl _ _, trivial⟩))); simp only [Act.put, List.setIfInBounds_toArray, List.set_cons_zero, List.set_cons_succ])
  first | (refine Chain.skip rfl ?_ ?_; (focus rfl); simp only [Act.put, List.setIfInBounds_toArray, List.set_cons_zero, List.set_cons_succ]) | ((refine Chain.pos _ rfl (fun w' hw' _ => ?_) ?_; focus (obtain ⟨hc', hf'⟩ := bcell hw'; have hz := hw'.size; simp only [World.size_alloc, World.size_setCell, World.size_drew] at hz; have z : w.heap.size < w'.heap.size := (by omega); have y : w.heap.size ≤ w'.heap.size := (by omega); have z : w1.heap.size < w'.heap.size := (by omega); have y : w1.heap.size ≤ w'.heap.size := (by omega); (go_wp2_with fail; first | ((with_reducible refine (word_any _ _ _).mono ?_); rintro e w'' ⟨rfl, hb⟩; go_simp; first | rfl | (refine ⟨hb, ?_⟩; rfl))))); simp only [Act.put, List.setIfInBounds_toArray, List.set_cons_zero, List.set_cons_succ])
  first | (refine Chain.skip rfl ?_ ?_; (focus rfl); simp only [Act.put, List.setIfInBounds_toArray, List.set_cons_zero, List.set_cons_succ]) | ((refine Chain.pos _ rfl (fun w' hw' _ => ?_) ?_; focus (obtain ⟨hc', hf'⟩ := bcell hw'; have hz := hw'.size; simp only [World.size_alloc, World.size_setCell, World.size_drew] at hz; have z : w.heap.size < w'.heap.size := (by omega); have y : w.heap.size ≤ w'.heap.size := (by omega); have z : w1.heap.size < w'.heap.size := (by omega); have y : w1.heap.size ≤ w'.heap.size := (by omega); (go_wp2_with fail; first | (refine ⟨Below.refl _ _, ?_⟩; rfl) | rfl | exact ⟨Below.refl _ _, trivial⟩))); simp only [Act.put, List.setIfInBounds_toArray, List.set_cons_zero, List.set_cons_succ])
  first | (refine Chain.skip rfl ?_ ?_; (focus rfl); simp only [Act.put, List.setIfInBounds_toArray, List.set_cons_zero, List.set_cons_succ]) | ((refine Chain.pos _ rfl (fun w' hw' _ => ?_) ?_; focus (obtain ⟨hc', hf'⟩ := bcell hw'; have hz := hw'.size; simp only [World.size_alloc, World.size_setCell, World.size_drew] at hz; have z : w.heap.size < w'.heap.size := (by omega); have y : w.heap.size ≤ w'.heap.size := (by omega); have z : w1.heap.size < w'.heap.size := (by omega); have y : w1.heap.size ≤ w'.heap.size := (by omega); (go_wp2_with fail; first | ((with_reducible refine (word_ref _ _ _).mono ?_); rintro e w'' ⟨rfl, hb⟩; go_simp; first | rfl | (refine ⟨hb, ?_⟩; rfl))))); simp only [Act.put, List.setIfInBounds_toArray, List.set_cons_zero, List.set_cons_succ])
  first | (refine Chain.skip rfl ?_ ?_; (focus rfl); simp only [Act.put, List.setIfInBounds_toArray, List.set_cons_zero, List.set_cons_succ]) | ((refine Chain.pos _ rfl (fun w' hw' _ => ?_) ?_; focus (obtain ⟨hc', hf'⟩ := bcell hw'; have hz := hw'.size; simp only [World.size_alloc, World.size_setCell, World.size_drew] at hz; have z : w.heap.size < w'.heap.size := (by omega); have y : w.heap.size ≤ w'.heap.size := (by omega); have z : w1.heap.size < w'.heap.size := (by omega); have y : w1.heap.size ≤ w'.heap.size := (by omega); (go_wp2_with fail; first | (refine ⟨Below.refl _ _, ?_⟩; rfl) | rfl | exact ⟨Below.refl _ _, trivial⟩))); simp only [Act.put, List.setIfInBounds_toArray, List.set_cons_zero, List.set_cons_succ])
  (refine Chain.pos _ rfl (fun w' hw' _ => ?_) ?_; focus (obtain ⟨hc', hf'⟩ := bcell hw'; have hz := hw'.size; simp only [World.size_alloc, World.size_setCell, World.size_drew] at hz; have z : w.heap.size < w'.heap.size := (by omega); have y : w.heap.size ≤ w'.heap.size := (by omega); have z : w1.heap.size < w'.heap.size := (by omega); have y : w1.heap.size ≤ w'.heap.size := (by omega); (go_wp2_with fail; first | (refine ⟨Below.refl _ _, ?_⟩; rfl) | rfl | exact ⟨Below.refl _ _, trivial⟩))); simp only [Act.put, List.setIfInBounds_toArray, List.set_cons_zero, List.set_cons_succ]
  (refine Chain.pos _ rfl (fun w' hw' _ => ?_) ?_; focus (obtain ⟨hc', hf'⟩ := bcell hw'; have hz := hw'.size; simp only [World.size_alloc, World.size_setCell, World.size_drew] at hz; have z : w.heap.size < w'.heap.size := (by omega); have y : w.heap.size ≤ w'.heap.size := (by omega); have z : w1.heap.size < w'.heap.size := (by omega); have y : w1.heap.size ≤ w'.heap.size := (by omega); (go_wp2_with fail; first | (refine ⟨Below.refl _ _, ?_⟩; rfl) | rfl | exact ⟨Below.refl _ _, trivial⟩))); simp only [Act.put, List.setIfInBounds_toArray, List.set_cons_zero, List.set_cons_succ]
  first | (refine Chain.skip rfl ?_ ?_; (focus rfl); simp only [Act.put, List.setIfInBounds_toArray, List.set_cons_zero, List.set_cons_succ]) | ((refine Chain.pos _ rfl (fun w' hw' _ => ?_) ?_; focus (obtain ⟨hc', hf'⟩ := bcell hw'; have hz := hw'.size; simp only [World.size_alloc, World.size_setCell, World.size_drew] at hz; have z : w.heap.size < w'.heap.size := (by omega); have y : w.heap.size ≤ w'.heap.size := (by omega); have z : w1.heap.size < w'.heap.size := (by omega); have y : w1.heap.size ≤ w'.heap.size := (by omega); (go_wp2_with fail; first | (refine ⟨Below.refl _ _, ?_⟩; rfl) | rfl | exact ⟨Below.refl _ _, trivial⟩))); simp only [Act.put, List.setIfInBounds_toArray, List.set_cons_zero, List.set_cons_succ])
  first | (refine Chain.skip rfl ?_ ?_; (focus rfl); simp only [Act.put, List.setIfInBounds_toArray, List.set_cons_zero, List.set_cons_succ]) | ((refine Chain.pos _ rfl (fun w' hw' _ => ?_) ?_; focus (obtain ⟨hc', hf'⟩ := bcell hw'; have hz := hw'.size; simp only [World.size_alloc, World.size_setCell, World.size_drew] at hz; have z : w.heap.size < w'.heap.size := (by omega); have y : w.heap.size ≤ w'.heap.size := (by omega); have z : w1.heap.size < w'.heap.size := (by omega); have y : w1.heap.size ≤ w'.heap.size := (by omega); (go_wp2_with fail; first | (refine ⟨Below.refl _ _, ?_⟩; rfl) | rfl | exact ⟨Below.refl _ _, trivial⟩))); simp only [Act.put, List.setIfInBounds_toArray, List.set_cons_zero, List.set_cons_succ])
  first | (refine Chain.skip rfl ?_ ?_; (focus rfl); simp only [Act.put, List.setIfInBounds_toArray, List.set_cons_zero, List.set_cons_succ]) | ((refine Chain.pos _ rfl (fun w' hw' _ => ?_) ?_; focus (obtain ⟨hc', hf'⟩ := bcell hw'; have hz := hw'.size; simp only [World.size_alloc, World.size_setCell, World.size_drew] at hz; have z : w.heap.size < w'.heap.size := (by omega); have y : w.heap.size ≤ w'.heap.size := (by omega); have z : w1.heap.size < w'.heap.size := (by omega); have y : w1.heap.size ≤ w'.heap.size := (by omega); (go_wp2_with fail; first | (refine ⟨Below.refl _ _, ?_⟩; rfl) | rfl | exact ⟨Below.refl _ _, trivial⟩))); simp only [Act.put, List.setIfInBounds_toArray, List.set_cons_zero, List.set_cons_succ])
  (refine Chain.pos _ rfl (fun w' hw' _ => ?_) ?_; focus (obtain ⟨hc', hf'⟩ := bcell hw'; have hz := hw'.size; simp only [World.size_alloc, World.size_setCell, World.size_drew] at hz; have z : w.heap.size < w'.heap.size := (by omega); have y : w.heap.size ≤ w'.heap.size := (by omega); have z : w1.heap.size < w'.heap.size := (by omega); have y : w1.heap.size ≤ w'.heap.size := (by omega); (go_wp2_with fail; first | (refine ⟨Below.refl _ _, ?_⟩; rfl) | rfl | exact ⟨Below.refl _ _, trivial⟩))); simp only [Act.put, List.setIfInBounds_toArray, List.set_cons_zero, List.set_cons_succ]
  (refine Chain.pos _ rfl (fun w' hw' _ => ?_) ?_; focus (obtain ⟨hc', hf'⟩ := bcell hw'; have hz := hw'.size; simp only [World.size_alloc, World.size_setCell, World.size_drew] at hz; have z : w.heap.size < w'.heap.size := (by omega); have y : w.heap.size ≤ w'.heap.size := (by omega); have z : w1.heap.size < w'.heap.size := (by omega); have y : w1.heap.size ≤ w'.heap.size := (by omega); (go_wp2_with fail; first | (refine ⟨Below.refl _ _, ?_⟩; rfl) | rfl | exact ⟨Below.refl _ _, trivial⟩))); simp only [Act.put, List.setIfInBounds_toArray, List.set_cons_zero, List.set_cons_succ]
  first | (refine Chain.skip rfl ?_ ?_; (focus rfl); simp only [Act.put, List.setIfInBounds_toArray, List.set_cons_zero, List.set_cons_succ]) | ((refine Chain.pos _ rfl (fun w' hw' _ => ?_) ?_; focus (obtain ⟨hc', hf'⟩ := bcell hw'; have hz := hw'.size; simp only [World.size_alloc, World.size_setCell, World.size_drew] at hz; have z : w.heap.size < w'.heap.size := (by omega); have y : w.heap.size ≤ w'.heap.size := (by omega); have z : w1.heap.size < w'.heap.size := (by omega); have y : w1.heap.size ≤ w'.heap.size := (by omega); (go_wp2_with fail; first | (refine ⟨Below.refl _ _, ?_⟩; rfl) | rfl | exact ⟨Below.refl _ _, trivial⟩))); simp only [Act.put, List.setIfInBounds_toArray, List.set_cons_zero, List.set_cons_succ])
  first | (refine Chain.skip rfl ?_ ?_; (focus rfl); simp only [Act.put, List.setIfInBounds_toArray, List.set_cons_zero, List.set_cons_succ]) | ((refine Chain.pos _ rfl (fun w' hw' _ => ?_) ?_; focus (obtain ⟨hc', hf'⟩ := bcell hw'; have hz := hw'.size; simp only [World.size_alloc, World.size_setCell, World.size_drew] at hz; have z : w.heap.size < w'.heap.size := (by omega); have y : w.heap.size ≤ w'.heap.size := (by omega); have z : w1.heap.size < w'.heap.size := (by omega); have y : w1.heap.size ≤ w'.heap.size := (by omega); (go_wp2_with fail; first | (refine ⟨Below.refl _ _, ?_⟩; rfl) | rfl | exact ⟨Below.refl _ _, trivial⟩))); simp only [Act.put, List.setIfInBounds_toArray, List.set_cons_zero, List.set_cons_succ])
  first | (refine Chain.skip rfl ?_ ?_; (focus rfl); simp only [Act.put, List.setIfInBounds_toArray, List.set_cons_zero, List.set_cons_succ]) | ((refine Chain.pos _ rfl (fun w' hw' _ => ?_) ?_; focus (obtain ⟨hc', hf'⟩ := bcell hw'; have hz := hw'.size; simp only [World.size_alloc, World.size_setCell, World.size_drew] at hz; have z : w.heap.size < w'.heap.size := (by omega); have y : w.heap.size ≤ w'.heap.size := (by omega); have z : w1.heap.size < w'.heap.size := (by omega); have y : w1.heap.size ≤ w'.heap.size := (by omega); (go_wp2_with fail; first | (refine ⟨Below.refl _ _, ?_⟩; rfl) | rfl | exact ⟨Below.refl _ _, trivial⟩))); simp only [Act.put, List.setIfInBounds_toArray, List.set_cons_zero, List.set_cons_succ])
  (refine Chain.pos _ rfl (fun w' hw' _ => ?_) ?_; focus (obtain ⟨hc', hf'⟩ := bcell hw'; have hz := hw'.size; simp only [World.size_alloc, World.size_setCell, World.size_drew] at hz; have z : w.heap.size < w'.heap.size := (by omega); have y : w.heap.size ≤ w'.heap.size := (by omega); have z : w1.heap.size < w'.heap.size := (by omega); have y : w1.heap.size ≤ w'.heap.size := (by omega); (go_wp2_with fail; first | (refine ⟨Below.refl _ _, ?_⟩; rfl) | rfl | exact ⟨Below.refl _ _, trivial⟩))); simp only [Act.put, List.setIfInBounds_toArray, List.set_cons_zero, List.set_cons_succ]
  (refine Chain.pos _ rfl (fun w' hw' _ => ?_) ?_; focus (obtain ⟨hc', hf'⟩ := bcell hw'; have hz := hw'.size; simp only [World.size_alloc, World.size_setCell, World.size_drew] at hz; have z : w.heap.size < w'.heap.size := (by omega); have y : w.heap.size ≤ w'.heap.size := (by omega); have z : w1.heap.size < w'.heap.size := (by omega); have y : w1.heap.size ≤ w'.heap.size := (by omega); (go_wp2_with fail; first | (refine ⟨Below.refl _ _, ?_⟩; rfl) | rfl | exact ⟨Below.refl _ _, trivial⟩))); simp only [Act.put, List.setIfInBounds_toArray, List.set_cons_zero, List.set_cons_succ]
  first | (refine Chain.skip rfl ?_ ?_; (focus rfl); simp only [Act.put, List.setIfInBounds_toArray, List.set_cons_zero, List.set_cons_succ]) | ((refine Chain.pos _ rfl (fun w' hw' _ => ?_) ?_; focus (obtain ⟨hc', hf'⟩ := bcell hw'; have hz := hw'.size; simp only [World.size_alloc, World.size_setCell, World.size_drew] at hz; have z : w.heap.size < w'.heap.size := (by omega); have y : w.heap.size ≤ w'.heap.size := (by omega); have z : w1.heap.size < w'.heap.size := (by omega); have y : w1.heap.size ≤ w'.heap.size := (by omega); (go_wp2_with fail; first | ((with_reducible refine (awake01 _).mono ?_); rintro e w'' ⟨rfl, hb⟩; go_simp; first | rfl | (refine ⟨hb, ?_⟩; rfl))))); simp only [Act.put, List.setIfInBounds_toArray, List.set_cons_zero, List.set_cons_succ])
  (refine Chain.pos _ rfl (fun w' hw' _ => ?_) ?_; focus (obtain ⟨hc', hf'⟩ := bcell hw'; have hz := hw'.size; simp only [World.size_alloc, World.size_setCell, World.size_drew] at hz; have z : w.heap.size < w'.heap.size := (by omega); have y : w.heap.size ≤ w'.heap.size := (by omega); have z : w1.heap.size < w'.heap.size := (by omega); have y : w1.heap.size ≤ w'.heap.size := (by omega); (go_wp2_with fail; first | (refine ⟨Below.refl _ _, ?_⟩; rfl) | rfl | exact ⟨Below.refl _ _, trivial⟩))); simp only [Act.put, List.setIfInBounds_toArray, List.set_cons_zero, List.set_cons_succ]
  (refine Chain.pos _ rfl (fun w' hw' _ => ?_) ?_; focus (obtain ⟨hc', hf'⟩ := bcell hw'; have hz := hw'.size; simp only [World.size_alloc, World.size_setCell, World.size_drew] at hz; have z : w.heap.size < w'.heap.size := (by omega); have y : w.heap.size ≤ w'.heap.size := (by omega); have z : w1.heap.size < w'.heap.size := (by omega); have y : w1.heap.size ≤ w'.heap.size := (by omega); (go_wp2_with fail; first | (refine ⟨Below.refl _ _, ?_⟩; rfl) | rfl | exact ⟨Below.refl _ _, trivial⟩))); simp only [Act.put, List.setIfInBounds_toArray, List.set_cons_zero, List.set_cons_succ]
  intro w' hw' _
  obtain ⟨hc', hf'⟩ := bcell hw'
  have hz := hw'.size
  simp only [World.size_alloc, World.size_setCell, World.size_drew] at hz
  have z : w.heap.size < w'.heap.size := by omega
  have y : w.heap.size ≤ w'.heap.size := by omega
  have z : w1.heap.size < w'.heap.size := by omega
  have y : w1.heap.size ≤ w'.heap.size := by omega
  go_wp2_with fail
  (refine bodyPost_ret (v := _) (by simp [results, Try.results3, go_sem]; rfl) rfl ⟨?_, ?_⟩)
  · rfl
  · (repeat (first | exact Below.refl _ _ | refine Below.setCell ?_ (by first | omega | (simp; done) | (simp; omega)) _ | refine Below.alloc ?_ (by first | omega | (simp; done) | (simp; omega)) _ | refine Below.drew ?_ | (refine Below.trans ?_ (Below.mono (by assumption) (by first | omega | (simp; done) | (simp; omega))))))

theorem refBack_walk (i t x : Int) (h0 : 0 ≤ x) (h1 : x < 18446744073709551616) (w : World) :
    Calls Try.prog 4 #[.agg #[.int .i64 i, .int .i64 t], .int .u64 x] w fun e w' => e = .returned (.bool true) ∧ Below w.heap.size w w' := by
  have b := word_bounds i t
  have fg : good i t = true → rdOk (word i t) = true ∧ rdI (word i t) = i ∧ rdT (word i t) = t := rd_word
  have fn : good i t = false → rdOk (word i t) = false := rd_word_no
  cases hgd : good i t
  · have fn := fn hgd
    clear fg
    by_cases ho : rdOk x = true
    · have hg := (rd_good h0 h1 ho).2
      go_enter Try.func4, Try.ntmps4
      go_wp2_with fail
      refine (read_any x h0 h1 _).mono ?_
      rintro e w1 ⟨rfl, hb1⟩
      have hz1 := hb1.size
      (try simp only [World.size_alloc, World.size_setCell, World.size_drew] at hz1)
      obtain ⟨hc1, hf1⟩ := bcell hb1
      have z1_0 : w.heap.size < w1.heap.size := by omega
      have y1_0 : w.heap.size ≤ w1.heap.size := by omega
      go_wp2_with fail
      refine (word_any _ _ _).mono ?_
      rintro e w2 ⟨rfl, hb2⟩
      have hz2 := hb2.size
      (try simp only [World.size_alloc, World.size_setCell, World.size_drew] at hz2)
      obtain ⟨hc2, hf2⟩ := bcell hb2
      have z2_0 : w.heap.size < w2.heap.size := by omega
      have y2_0 : w.heap.size ≤ w2.heap.size := by omega
      have z2_1 : w1.heap.size < w2.heap.size := by omega
      have y2_1 : w1.heap.size ≤ w2.heap.size := by omega
      go_wp2_with fail
      refine (word_any _ _ _).mono ?_
      rintro e w3 ⟨rfl, hb3⟩
      have hz3 := hb3.size
      (try simp only [World.size_alloc, World.size_setCell, World.size_drew] at hz3)
      obtain ⟨hc3, hf3⟩ := bcell hb3
      have z3_0 : w.heap.size < w3.heap.size := by omega
      have y3_0 : w.heap.size ≤ w3.heap.size := by omega
      have z3_1 : w1.heap.size < w3.heap.size := by omega
      have y3_1 : w1.heap.size ≤ w3.heap.size := by omega
      go_wp2_with fail
      refine (read_any _ b.1 b.2 _).mono ?_
      rintro e w4 ⟨rfl, hb4⟩
      have hz4 := hb4.size
      (try simp only [World.size_alloc, World.size_setCell, World.size_drew] at hz4)
      obtain ⟨hc4, hf4⟩ := bcell hb4
      have z4_0 : w.heap.size < w4.heap.size := by omega
      have y4_0 : w.heap.size ≤ w4.heap.size := by omega
      have z4_1 : w1.heap.size < w4.heap.size := by omega
      have y4_1 : w1.heap.size ≤ w4.heap.size := by omega
      go_wp2_with fail
      refine (good_any _ _ _).mono ?_
      rintro e w5 ⟨rfl, hb5⟩
      have hz5 := hb5.size
      (try simp only [World.size_alloc, World.size_setCell, World.size_drew] at hz5)
      obtain ⟨hc5, hf5⟩ := bcell hb5
      have z5_0 : w.heap.size < w5.heap.size := by omega
      have y5_0 : w.heap.size ≤ w5.heap.size := by omega
      have z5_1 : w1.heap.size < w5.heap.size := by omega
      have y5_1 : w1.heap.size ≤ w5.heap.size := by omega
      have z5_2 : w4.heap.size < w5.heap.size := by omega
      have y5_2 : w4.heap.size ≤ w5.heap.size := by omega
      go_wp2_with fail
      refine (awake01 _).mono ?_
      rintro e w6 ⟨rfl, hb6⟩
      have hz6 := hb6.size
      (try simp only [World.size_alloc, World.size_setCell, World.size_drew] at hz6)
      obtain ⟨hc6, hf6⟩ := bcell hb6
      have z6_0 : w.heap.size < w6.heap.size := by omega
      have y6_0 : w.heap.size ≤ w6.heap.size := by omega
      have z6_1 : w1.heap.size < w6.heap.size := by omega
      have y6_1 : w1.heap.size ≤ w6.heap.size := by omega
      have z6_2 : w4.heap.size < w6.heap.size := by omega
      have y6_2 : w4.heap.size ≤ w6.heap.size := by omega
      go_wp2_with fail
      (refine bodyPost_ret (v := _) (by simp [results, Try.results4, go_sem]; rfl) rfl ⟨?_, ?_⟩)
      · rfl
      · (repeat (first | exact Below.refl _ _ | refine Below.setCell ?_ (by first | omega | (simp; done) | (simp; omega)) _ | refine Below.alloc ?_ (by first | omega | (simp; done) | (simp; omega)) _ | refine Below.drew ?_ | (refine Below.trans ?_ (Below.mono (by assumption) (by first | omega | (simp; done) | (simp; omega))))))
    · have ho : rdOk x = false := by simpa using ho
      go_enter Try.func4, Try.ntmps4
      go_wp2_with fail
      refine (read_any x h0 h1 _).mono ?_
      rintro e w1 ⟨rfl, hb1⟩
      have hz1 := hb1.size
      (try simp only [World.size_alloc, World.size_setCell, World.size_drew] at hz1)
      obtain ⟨hc1, hf1⟩ := bcell hb1
      have z1_0 : w.heap.size < w1.heap.size := by omega
      have y1_0 : w.heap.size ≤ w1.heap.size := by omega
      go_wp2_with fail
      refine (word_any _ _ _).mono ?_
      rintro e w2 ⟨rfl, hb2⟩
      have hz2 := hb2.size
      (try simp only [World.size_alloc, World.size_setCell, World.size_drew] at hz2)
      obtain ⟨hc2, hf2⟩ := bcell hb2
      have z2_0 : w.heap.size < w2.heap.size := by omega
      have y2_0 : w.heap.size ≤ w2.heap.size := by omega
      have z2_1 : w1.heap.size < w2.heap.size := by omega
      have y2_1 : w1.heap.size ≤ w2.heap.size := by omega
      go_wp2_with fail
      refine (read_any _ b.1 b.2 _).mono ?_
      rintro e w3 ⟨rfl, hb3⟩
      have hz3 := hb3.size
      (try simp only [World.size_alloc, World.size_setCell, World.size_drew] at hz3)
      obtain ⟨hc3, hf3⟩ := bcell hb3
      have z3_0 : w.heap.size < w3.heap.size := by omega
      have y3_0 : w.heap.size ≤ w3.heap.size := by omega
      have z3_1 : w1.heap.size < w3.heap.size := by omega
      have y3_1 : w1.heap.size ≤ w3.heap.size := by omega
      go_wp2_with fail
      refine (good_any _ _ _).mono ?_
      rintro e w4 ⟨rfl, hb4⟩
      have hz4 := hb4.size
      (try simp only [World.size_alloc, World.size_setCell, World.size_drew] at hz4)
      obtain ⟨hc4, hf4⟩ := bcell hb4
      have z4_0 : w.heap.size < w4.heap.size := by omega
      have y4_0 : w.heap.size ≤ w4.heap.size := by omega
      have z4_1 : w1.heap.size < w4.heap.size := by omega
      have y4_1 : w1.heap.size ≤ w4.heap.size := by omega
      have z4_2 : w3.heap.size < w4.heap.size := by omega
      have y4_2 : w3.heap.size ≤ w4.heap.size := by omega
      go_wp2_with fail
      refine (awake01 _).mono ?_
      rintro e w5 ⟨rfl, hb5⟩
      have hz5 := hb5.size
      (try simp only [World.size_alloc, World.size_setCell, World.size_drew] at hz5)
      obtain ⟨hc5, hf5⟩ := bcell hb5
      have z5_0 : w.heap.size < w5.heap.size := by omega
      have y5_0 : w.heap.size ≤ w5.heap.size := by omega
      have z5_1 : w1.heap.size < w5.heap.size := by omega
      have y5_1 : w1.heap.size ≤ w5.heap.size := by omega
      have z5_2 : w3.heap.size < w5.heap.size := by omega
      have y5_2 : w3.heap.size ≤ w5.heap.size := by omega
      go_wp2_with fail
      (refine bodyPost_ret (v := _) (by simp [results, Try.results4, go_sem]; rfl) rfl ⟨?_, ?_⟩)
      · rfl
      · (repeat (first | exact Below.refl _ _ | refine Below.setCell ?_ (by first | omega | (simp; done) | (simp; omega)) _ | refine Below.alloc ?_ (by first | omega | (simp; done) | (simp; omega)) _ | refine Below.drew ?_ | (refine Below.trans ?_ (Below.mono (by assumption) (by first | omega | (simp; done) | (simp; omega))))))
  · obtain ⟨f1, f2, f3⟩ := fg hgd
    clear fn
    by_cases ho : rdOk x = true
    · have hg := (rd_good h0 h1 ho).2
      go_enter Try.func4, Try.ntmps4
      go_wp2_with fail
      refine (read_any x h0 h1 _).mono ?_
      rintro e w1 ⟨rfl, hb1⟩
      have hz1 := hb1.size
      (try simp only [World.size_alloc, World.size_setCell, World.size_drew] at hz1)
      obtain ⟨hc1, hf1⟩ := bcell hb1
      have z1_0 : w.heap.size < w1.heap.size := by omega
      have y1_0 : w.heap.size ≤ w1.heap.size := by omega
      go_wp2_with fail
      refine (word_any _ _ _).mono ?_
      rintro e w2 ⟨rfl, hb2⟩
      have hz2 := hb2.size
      (try simp only [World.size_alloc, World.size_setCell, World.size_drew] at hz2)
      obtain ⟨hc2, hf2⟩ := bcell hb2
      have z2_0 : w.heap.size < w2.heap.size := by omega
      have y2_0 : w.heap.size ≤ w2.heap.size := by omega
      have z2_1 : w1.heap.size < w2.heap.size := by omega
      have y2_1 : w1.heap.size ≤ w2.heap.size := by omega
      go_wp2_with fail
      refine (word_any _ _ _).mono ?_
      rintro e w3 ⟨rfl, hb3⟩
      have hz3 := hb3.size
      (try simp only [World.size_alloc, World.size_setCell, World.size_drew] at hz3)
      obtain ⟨hc3, hf3⟩ := bcell hb3
      have z3_0 : w.heap.size < w3.heap.size := by omega
      have y3_0 : w.heap.size ≤ w3.heap.size := by omega
      have z3_1 : w1.heap.size < w3.heap.size := by omega
      have y3_1 : w1.heap.size ≤ w3.heap.size := by omega
      go_wp2_with fail
      refine (read_any _ b.1 b.2 _).mono ?_
      rintro e w4 ⟨rfl, hb4⟩
      have hz4 := hb4.size
      (try simp only [World.size_alloc, World.size_setCell, World.size_drew] at hz4)
      obtain ⟨hc4, hf4⟩ := bcell hb4
      have z4_0 : w.heap.size < w4.heap.size := by omega
      have y4_0 : w.heap.size ≤ w4.heap.size := by omega
      have z4_1 : w1.heap.size < w4.heap.size := by omega
      have y4_1 : w1.heap.size ≤ w4.heap.size := by omega
      go_wp2_with fail
      refine (good_any _ _ _).mono ?_
      rintro e w5 ⟨rfl, hb5⟩
      have hz5 := hb5.size
      (try simp only [World.size_alloc, World.size_setCell, World.size_drew] at hz5)
      obtain ⟨hc5, hf5⟩ := bcell hb5
      have z5_0 : w.heap.size < w5.heap.size := by omega
      have y5_0 : w.heap.size ≤ w5.heap.size := by omega
      have z5_1 : w1.heap.size < w5.heap.size := by omega
      have y5_1 : w1.heap.size ≤ w5.heap.size := by omega
      have z5_2 : w4.heap.size < w5.heap.size := by omega
      have y5_2 : w4.heap.size ≤ w5.heap.size := by omega
      go_wp2_with fail
      refine (awake01 _).mono ?_
      rintro e w6 ⟨rfl, hb6⟩
      have hz6 := hb6.size
      (try simp only [World.size_alloc, World.size_setCell, World.size_drew] at hz6)
      obtain ⟨hc6, hf6⟩ := bcell hb6
      have z6_0 : w.heap.size < w6.heap.size := by omega
      have y6_0 : w.heap.size ≤ w6.heap.size := by omega
      have z6_1 : w1.heap.size < w6.heap.size := by omega
      have y6_1 : w1.heap.size ≤ w6.heap.size := by omega
      have z6_2 : w4.heap.size < w6.heap.size := by omega
      have y6_2 : w4.heap.size ≤ w6.heap.size := by omega
      go_wp2_with fail
      (refine bodyPost_ret (v := _) (by simp [results, Try.results4, go_sem]; rfl) rfl ⟨?_, ?_⟩)
      · rfl
      · (repeat (first | exact Below.refl _ _ | refine Below.setCell ?_ (by first | omega | (simp; done) | (simp; omega)) _ | refine Below.alloc ?_ (by first | omega | (simp; done) | (simp; omega)) _ | refine Below.drew ?_ | (refine Below.trans ?_ (Below.mono (by assumption) (by first | omega | (simp; done) | (simp; omega))))))
    · have ho : rdOk x = false := by simpa using ho
      go_enter Try.func4, Try.ntmps4
      go_wp2_with fail
      refine (read_any x h0 h1 _).mono ?_
      rintro e w1 ⟨rfl, hb1⟩
      have hz1 := hb1.size
      (try simp only [World.size_alloc, World.size_setCell, World.size_drew] at hz1)
      obtain ⟨hc1, hf1⟩ := bcell hb1
      have z1_0 : w.heap.size < w1.heap.size := by omega
      have y1_0 : w.heap.size ≤ w1.heap.size := by omega
      go_wp2_with fail
      refine (word_any _ _ _).mono ?_
      rintro e w2 ⟨rfl, hb2⟩
      have hz2 := hb2.size
      (try simp only [World.size_alloc, World.size_setCell, World.size_drew] at hz2)
      obtain ⟨hc2, hf2⟩ := bcell hb2
      have z2_0 : w.heap.size < w2.heap.size := by omega
      have y2_0 : w.heap.size ≤ w2.heap.size := by omega
      have z2_1 : w1.heap.size < w2.heap.size := by omega
      have y2_1 : w1.heap.size ≤ w2.heap.size := by omega
      go_wp2_with fail
      refine (read_any _ b.1 b.2 _).mono ?_
      rintro e w3 ⟨rfl, hb3⟩
      have hz3 := hb3.size
      (try simp only [World.size_alloc, World.size_setCell, World.size_drew] at hz3)
      obtain ⟨hc3, hf3⟩ := bcell hb3
      have z3_0 : w.heap.size < w3.heap.size := by omega
      have y3_0 : w.heap.size ≤ w3.heap.size := by omega
      have z3_1 : w1.heap.size < w3.heap.size := by omega
      have y3_1 : w1.heap.size ≤ w3.heap.size := by omega
      go_wp2_with fail
      refine (good_any _ _ _).mono ?_
      rintro e w4 ⟨rfl, hb4⟩
      have hz4 := hb4.size
      (try simp only [World.size_alloc, World.size_setCell, World.size_drew] at hz4)
      obtain ⟨hc4, hf4⟩ := bcell hb4
      have z4_0 : w.heap.size < w4.heap.size := by omega
      have y4_0 : w.heap.size ≤ w4.heap.size := by omega
      have z4_1 : w1.heap.size < w4.heap.size := by omega
      have y4_1 : w1.heap.size ≤ w4.heap.size := by omega
      have z4_2 : w3.heap.size < w4.heap.size := by omega
      have y4_2 : w3.heap.size ≤ w4.heap.size := by omega
      go_wp2_with fail
      refine (awake01 _).mono ?_
      rintro e w5 ⟨rfl, hb5⟩
      have hz5 := hb5.size
      (try simp only [World.size_alloc, World.size_setCell, World.size_drew] at hz5)
      obtain ⟨hc5, hf5⟩ := bcell hb5
      have z5_0 : w.heap.size < w5.heap.size := by omega
      have y5_0 : w.heap.size ≤ w5.heap.size := by omega
      have z5_1 : w1.heap.size < w5.heap.size := by omega
      have y5_1 : w1.heap.size ≤ w5.heap.size := by omega
      have z5_2 : w3.heap.size < w5.heap.size := by omega
      have y5_2 : w3.heap.size ≤ w5.heap.size := by omega
      go_wp2_with fail
      (refine bodyPost_ret (v := _) (by simp [results, Try.results4, go_sem]; rfl) rfl ⟨?_, ?_⟩)
      · rfl
      · (repeat (first | exact Below.refl _ _ | refine Below.setCell ?_ (by first | omega | (simp; done) | (simp; omega)) _ | refine Below.alloc ?_ (by first | omega | (simp; done) | (simp; omega)) _ | refine Below.drew ?_ | (refine Below.trans ?_ (Below.mono (by assumption) (by first | omega | (simp; done) | (simp; omega))))))
end Go.Proofs.Ytefghbdecnbpjaa
