/- The laws of layer 1 (ref), walked, second part. -/
import Derived.Test.YtefghbdecnbpjaaRefC
namespace Go.Proofs.Ytefghbdecnbpjaa
set_option linter.unusedVariables false
set_option linter.unusedSimpArgs false
set_option linter.unnecessarySimpa false
open Go.RowKit

theorem refNext_walk (i t last j u : Int) (w : World) :
    Calls Try.prog 6 #[.agg #[.int .i64 i, .int .i64 t], .int .i64 last, .agg #[.int .i64 j, .int .i64 u]] w fun e w' => e = .returned (.bool true) ∧ Below w.heap.size w w' := by
  go_enter Try.func6, Try.ntmps6
  go_wp2_with fail
  refine (next_any _ _ _ _).mono ?_
  rintro e w1 ⟨rfl, hb1⟩
  have hz1 := hb1.size
  (try simp only [World.size_alloc, World.size_setCell, World.size_drew] at hz1)
  obtain ⟨hc1, hf1⟩ := bcell hb1
  have z1_0 : w.heap.size < w1.heap.size := by omega
  have y1_0 : w.heap.size ≤ w1.heap.size := by omega
  have z1_1 : w.heap.size + 1 < w1.heap.size := by omega
  have y1_1 : w.heap.size + 1 ≤ w1.heap.size := by omega
  go_wp2_with fail
  refine (next_ref _ _ _ _).mono ?_
  rintro e w2 ⟨rfl, hb2⟩
  have hz2 := hb2.size
  (try simp only [World.size_alloc, World.size_setCell, World.size_drew] at hz2)
  obtain ⟨hc2, hf2⟩ := bcell hb2
  have z2_0 : w.heap.size < w2.heap.size := by omega
  have y2_0 : w.heap.size ≤ w2.heap.size := by omega
  have z2_1 : w.heap.size + 1 < w2.heap.size := by omega
  have y2_1 : w.heap.size + 1 ≤ w2.heap.size := by omega
  have z2_2 : w1.heap.size < w2.heap.size := by omega
  have y2_2 : w1.heap.size ≤ w2.heap.size := by omega
  go_wp2_with fail
  refine region_chain (by kernel_rfl) 22 [.val ?_, .val ?_, .val ?_, .val ?_, .val ?_, .val ?_, .val ?_, .val ?_, .val ?_, .val ?_, .val ?_, .val ?_, .val ?_, .val ?_, .val ?_, .val ?_, .val ?_, .val ?_, .val ?_, .val ?_, .val ?_, .val ?_] rfl (by decide +kernel) ?_
  rotate_left 22
  (refine Chain.pos _ rfl (fun w' hw' _ => ?_) ?_; focus (obtain ⟨hc', hf'⟩ := bcell hw'; have hz := hw'.size; simp only [World.size_alloc, World.size_setCell, World.size_drew] at hz; have z : w.heap.size < w'.heap.size := (by omega); have y : w.heap.size ≤ w'.heap.size := (by omega); have z : w.heap.size + 1 < w'.heap.size := (by omega); have y : w.heap.size + 1 ≤ w'.heap.size := (by omega); have z : w1.heap.size < w'.heap.size := (by omega); have y : w1.heap.size ≤ w'.heap.size := (by omega); (go_wp2_with fail; first | (refine ⟨Below.refl _ _, ?_⟩; rfl) | rfl | exact ⟨Below.refl _ _, trivial⟩))); simp only [Act.put, List.setIfInBounds_toArray, List.set_cons_zero, List.set_cons_succ]
  (refine Chain.pos _ rfl (fun w' hw' _ => ?_) ?_; focus (obtain ⟨hc', hf'⟩ := bcell hw'; have hz := hw'.size; simp only [World.size_alloc, World.size_setCell, World.size_drew] at hz; have z : w.heap.size < w'.heap.size := (by omega); have y : w.heap.size ≤ w'.heap.size := (by omega); have z : w.heap.size + 1 < w'.heap.size := (by omega); have y : w.heap.size + 1 ≤ w'.heap.size := (by omega); have z : w1.heap.size < w'.heap.size := (by omega); have y : w1.heap.size ≤ w'.heap.size := (by omega); (go_wp2_with fail; first | (refine ⟨Below.refl _ _, ?_⟩; rfl) | rfl | exact ⟨Below.refl _ _, trivial⟩))); simp only [Act.put, List.setIfInBounds_toArray, List.set_cons_zero, List.set_cons_succ]
  (refine Chain.pos _ rfl (fun w' hw' _ => ?_) ?_; focus (obtain ⟨hc', hf'⟩ := bcell hw'; have hz := hw'.size; simp only [World.size_alloc, World.size_setCell, World.size_drew] at hz; have z : w.heap.size < w'.heap.size := (by omega); have y : w.heap.size ≤ w'.heap.size := (by omega); have z : w.heap.size + 1 < w'.heap.size := (by omega); have y : w.heap.size + 1 ≤ w'.heap.size := (by omega); have z : w1.heap.size < w'.heap.size := (by omega); have y : w1.heap.size ≤ w'.heap.size := (by omega); (go_wp2_with fail; first | (refine ⟨Below.refl _ _, ?_⟩; rfl) | rfl | exact ⟨Below.refl _ _, trivial⟩))); simp only [Act.put, List.setIfInBounds_toArray, List.set_cons_zero, List.set_cons_succ]
  (refine Chain.pos _ rfl (fun w' hw' _ => ?_) ?_; focus (obtain ⟨hc', hf'⟩ := bcell hw'; have hz := hw'.size; simp only [World.size_alloc, World.size_setCell, World.size_drew] at hz; have z : w.heap.size < w'.heap.size := (by omega); have y : w.heap.size ≤ w'.heap.size := (by omega); have z : w.heap.size + 1 < w'.heap.size := (by omega); have y : w.heap.size + 1 ≤ w'.heap.size := (by omega); have z : w1.heap.size < w'.heap.size := (by omega); have y : w1.heap.size ≤ w'.heap.size := (by omega); (go_wp2_with fail; first | (refine ⟨Below.refl _ _, ?_⟩; rfl) | rfl | exact ⟨Below.refl _ _, trivial⟩))); simp only [Act.put, List.setIfInBounds_toArray, List.set_cons_zero, List.set_cons_succ]
  first | (refine Chain.skip rfl ?_ ?_; (focus rfl); simp only [Act.put, List.setIfInBounds_toArray, List.set_cons_zero, List.set_cons_succ]) | ((refine Chain.pos _ rfl (fun w' hw' _ => ?_) ?_; focus (obtain ⟨hc', hf'⟩ := bcell hw'; have hz := hw'.size; simp only [World.size_alloc, World.size_setCell, World.size_drew] at hz; have z : w.heap.size < w'.heap.size := (by omega); have y : w.heap.size ≤ w'.heap.size := (by omega); have z : w.heap.size + 1 < w'.heap.size := (by omega); have y : w.heap.size + 1 ≤ w'.heap.size := (by omega); have z : w1.heap.size < w'.heap.size := (by omega); have y : w1.heap.size ≤ w'.heap.size := (by omega); (go_wp2_with fail; first | (refine ⟨Below.refl _ _, ?_⟩; rfl) | rfl | exact ⟨Below.refl _ _, trivial⟩))); simp only [Act.put, List.setIfInBounds_toArray, List.set_cons_zero, List.set_cons_succ])
  first | (refine Chain.skip rfl ?_ ?_; (focus rfl); simp only [Act.put, List.setIfInBounds_toArray, List.set_cons_zero, List.set_cons_succ]) | ((refine Chain.pos _ rfl (fun w' hw' _ => ?_) ?_; focus (obtain ⟨hc', hf'⟩ := bcell hw'; have hz := hw'.size; simp only [World.size_alloc, World.size_setCell, World.size_drew] at hz; have z : w.heap.size < w'.heap.size := (by omega); have y : w.heap.size ≤ w'.heap.size := (by omega); have z : w.heap.size + 1 < w'.heap.size := (by omega); have y : w.heap.size + 1 ≤ w'.heap.size := (by omega); have z : w1.heap.size < w'.heap.size := (by omega); have y : w1.heap.size ≤ w'.heap.size := (by omega); (go_wp2_with fail; first | (refine ⟨Below.refl _ _, ?_⟩; rfl) | rfl | exact ⟨Below.refl _ _, trivial⟩))); simp only [Act.put, List.setIfInBounds_toArray, List.set_cons_zero, List.set_cons_succ])
  first | (refine Chain.skip rfl ?_ ?_; (focus rfl); simp only [Act.put, List.setIfInBounds_toArray, List.set_cons_zero, List.set_cons_succ]) | ((refine Chain.pos _ rfl (fun w' hw' _ => ?_) ?_; focus (obtain ⟨hc', hf'⟩ := bcell hw'; have hz := hw'.size; simp only [World.size_alloc, World.size_setCell, World.size_drew] at hz; have z : w.heap.size < w'.heap.size := (by omega); have y : w.heap.size ≤ w'.heap.size := (by omega); have z : w.heap.size + 1 < w'.heap.size := (by omega); have y : w.heap.size + 1 ≤ w'.heap.size := (by omega); have z : w1.heap.size < w'.heap.size := (by omega); have y : w1.heap.size ≤ w'.heap.size := (by omega); (go_wp2_with fail; first | (refine ⟨Below.refl _ _, ?_⟩; rfl) | rfl | exact ⟨Below.refl _ _, trivial⟩))); simp only [Act.put, List.setIfInBounds_toArray, List.set_cons_zero, List.set_cons_succ])
  (refine Chain.pos _ rfl (fun w' hw' _ => ?_) ?_; focus (obtain ⟨hc', hf'⟩ := bcell hw'; have hz := hw'.size; simp only [World.size_alloc, World.size_setCell, World.size_drew] at hz; have z : w.heap.size < w'.heap.size := (by omega); have y : w.heap.size ≤ w'.heap.size := (by omega); have z : w.heap.size + 1 < w'.heap.size := (by omega); have y : w.heap.size + 1 ≤ w'.heap.size := (by omega); have z : w1.heap.size < w'.heap.size := (by omega); have y : w1.heap.size ≤ w'.heap.size := (by omega); (go_wp2_with fail; first | (refine ⟨Below.refl _ _, ?_⟩; rfl) | rfl | exact ⟨Below.refl _ _, trivial⟩))); simp only [Act.put, List.setIfInBounds_toArray, List.set_cons_zero, List.set_cons_succ]
  (refine Chain.pos _ rfl (fun w' hw' _ => ?_) ?_; focus (obtain ⟨hc', hf'⟩ := bcell hw'; have hz := hw'.size; simp only [World.size_alloc, World.size_setCell, World.size_drew] at hz; have z : w.heap.size < w'.heap.size := (by omega); have y : w.heap.size ≤ w'.heap.size := (by omega); have z : w.heap.size + 1 < w'.heap.size := (by omega); have y : w.heap.size + 1 ≤ w'.heap.size := (by omega); have z : w1.heap.size < w'.heap.size := (by omega); have y : w1.heap.size ≤ w'.heap.size := (by omega); (go_wp2_with fail; first | (refine ⟨Below.refl _ _, ?_⟩; rfl) | rfl | exact ⟨Below.refl _ _, trivial⟩))); simp only [Act.put, List.setIfInBounds_toArray, List.set_cons_zero, List.set_cons_succ]
  first | (refine Chain.skip rfl ?_ ?_; (focus rfl); simp only [Act.put, List.setIfInBounds_toArray, List.set_cons_zero, List.set_cons_succ]) | ((refine Chain.pos _ rfl (fun w' hw' _ => ?_) ?_; focus (obtain ⟨hc', hf'⟩ := bcell hw'; have hz := hw'.size; simp only [World.size_alloc, World.size_setCell, World.size_drew] at hz; have z : w.heap.size < w'.heap.size := (by omega); have y : w.heap.size ≤ w'.heap.size := (by omega); have z : w.heap.size + 1 < w'.heap.size := (by omega); have y : w.heap.size + 1 ≤ w'.heap.size := (by omega); have z : w1.heap.size < w'.heap.size := (by omega); have y : w1.heap.size ≤ w'.heap.size := (by omega); (go_wp2_with fail; first | (refine ⟨Below.refl _ _, ?_⟩; rfl) | rfl | exact ⟨Below.refl _ _, trivial⟩))); simp only [Act.put, List.setIfInBounds_toArray, List.set_cons_zero, List.set_cons_succ])
  first | (refine Chain.skip rfl ?_ ?_; (focus rfl); simp only [Act.put, List.setIfInBounds_toArray, List.set_cons_zero, List.set_cons_succ]) | ((refine Chain.pos _ rfl (fun w' hw' _ => ?_) ?_; focus (obtain ⟨hc', hf'⟩ := bcell hw'; have hz := hw'.size; simp only [World.size_alloc, World.size_setCell, World.size_drew] at hz; have z : w.heap.size < w'.heap.size := (by omega); have y : w.heap.size ≤ w'.heap.size := (by omega); have z : w.heap.size + 1 < w'.heap.size := (by omega); have y : w.heap.size + 1 ≤ w'.heap.size := (by omega); have z : w1.heap.size < w'.heap.size := (by omega); have y : w1.heap.size ≤ w'.heap.size := (by omega); (go_wp2_with fail; first | ((with_reducible refine (slot_any _ _ _).mono ?_); rintro e w'' ⟨rfl, hb⟩; go_simp; first | rfl | (refine ⟨hb, ?_⟩; rfl))))); simp only [Act.put, List.setIfInBounds_toArray, List.set_cons_zero, List.set_cons_succ])
  first | (refine Chain.skip rfl ?_ ?_; (focus rfl); simp only [Act.put, List.setIfInBounds_toArray, List.set_cons_zero, List.set_cons_succ]) | ((refine Chain.pos _ rfl (fun w' hw' _ => ?_) ?_; focus (obtain ⟨hc', hf'⟩ := bcell hw'; have hz := hw'.size; simp only [World.size_alloc, World.size_setCell, World.size_drew] at hz; have z : w.heap.size < w'.heap.size := (by omega); have y : w.heap.size ≤ w'.heap.size := (by omega); have z : w.heap.size + 1 < w'.heap.size := (by omega); have y : w.heap.size + 1 ≤ w'.heap.size := (by omega); have z : w1.heap.size < w'.heap.size := (by omega); have y : w1.heap.size ≤ w'.heap.size := (by omega); (go_wp2_with fail; first | (refine ⟨Below.refl _ _, ?_⟩; rfl) | rfl | exact ⟨Below.refl _ _, trivial⟩))); simp only [Act.put, List.setIfInBounds_toArray, List.set_cons_zero, List.set_cons_succ])
  first | (refine Chain.skip rfl ?_ ?_; (focus rfl); simp only [Act.put, List.setIfInBounds_toArray, List.set_cons_zero, List.set_cons_succ]) | ((refine Chain.pos _ rfl (fun w' hw' _ => ?_) ?_; focus (obtain ⟨hc', hf'⟩ := bcell hw'; have hz := hw'.size; simp only [World.size_alloc, World.size_setCell, World.size_drew] at hz; have z : w.heap.size < w'.heap.size := (by omega); have y : w.heap.size ≤ w'.heap.size := (by omega); have z : w.heap.size + 1 < w'.heap.size := (by omega); have y : w.heap.size + 1 ≤ w'.heap.size := (by omega); have z : w1.heap.size < w'.heap.size := (by omega); have y : w1.heap.size ≤ w'.heap.size := (by omega); (go_wp2_with fail; first | (refine ⟨Below.refl _ _, ?_⟩; rfl) | rfl | exact ⟨Below.refl _ _, trivial⟩))); simp only [Act.put, List.setIfInBounds_toArray, List.set_cons_zero, List.set_cons_succ])
  first | (refine Chain.skip rfl ?_ ?_; (focus rfl); simp only [Act.put, List.setIfInBounds_toArray, List.set_cons_zero, List.set_cons_succ]) | ((refine Chain.pos _ rfl (fun w' hw' _ => ?_) ?_; focus (obtain ⟨hc', hf'⟩ := bcell hw'; have hz := hw'.size; simp only [World.size_alloc, World.size_setCell, World.size_drew] at hz; have z : w.heap.size < w'.heap.size := (by omega); have y : w.heap.size ≤ w'.heap.size := (by omega); have z : w.heap.size + 1 < w'.heap.size := (by omega); have y : w.heap.size + 1 ≤ w'.heap.size := (by omega); have z : w1.heap.size < w'.heap.size := (by omega); have y : w1.heap.size ≤ w'.heap.size := (by omega); (go_wp2_with fail; first | (refine ⟨Below.refl _ _, ?_⟩; rfl) | rfl | exact ⟨Below.refl _ _, trivial⟩))); simp only [Act.put, List.setIfInBounds_toArray, List.set_cons_zero, List.set_cons_succ])
  first | (refine Chain.skip rfl ?_ ?_; (focus rfl); simp only [Act.put, List.setIfInBounds_toArray, List.set_cons_zero, List.set_cons_succ]) | ((refine Chain.pos _ rfl (fun w' hw' _ => ?_) ?_; focus (obtain ⟨hc', hf'⟩ := bcell hw'; have hz := hw'.size; simp only [World.size_alloc, World.size_setCell, World.size_drew] at hz; have z : w.heap.size < w'.heap.size := (by omega); have y : w.heap.size ≤ w'.heap.size := (by omega); have z : w.heap.size + 1 < w'.heap.size := (by omega); have y : w.heap.size + 1 ≤ w'.heap.size := (by omega); have z : w1.heap.size < w'.heap.size := (by omega); have y : w1.heap.size ≤ w'.heap.size := (by omega); (go_wp2_with fail; first | (refine ⟨Below.refl _ _, ?_⟩; rfl) | rfl | exact ⟨Below.refl _ _, trivial⟩))); simp only [Act.put, List.setIfInBounds_toArray, List.set_cons_zero, List.set_cons_succ])
  first | (refine Chain.skip rfl ?_ ?_; (focus rfl); simp only [Act.put, List.setIfInBounds_toArray, List.set_cons_zero, List.set_cons_succ]) | ((refine Chain.pos _ rfl (fun w' hw' _ => ?_) ?_; focus (obtain ⟨hc', hf'⟩ := bcell hw'; have hz := hw'.size; simp only [World.size_alloc, World.size_setCell, World.size_drew] at hz; have z : w.heap.size < w'.heap.size := (by omega); have y : w.heap.size ≤ w'.heap.size := (by omega); have z : w.heap.size + 1 < w'.heap.size := (by omega); have y : w.heap.size + 1 ≤ w'.heap.size := (by omega); have z : w1.heap.size < w'.heap.size := (by omega); have y : w1.heap.size ≤ w'.heap.size := (by omega); (go_wp2_with fail; first | (refine ⟨Below.refl _ _, ?_⟩; rfl) | rfl | exact ⟨Below.refl _ _, trivial⟩))); simp only [Act.put, List.setIfInBounds_toArray, List.set_cons_zero, List.set_cons_succ])
  first | (refine Chain.skip rfl ?_ ?_; (focus rfl); simp only [Act.put, List.setIfInBounds_toArray, List.set_cons_zero, List.set_cons_succ]) | ((refine Chain.pos _ rfl (fun w' hw' _ => ?_) ?_; focus (obtain ⟨hc', hf'⟩ := bcell hw'; have hz := hw'.size; simp only [World.size_alloc, World.size_setCell, World.size_drew] at hz; have z : w.heap.size < w'.heap.size := (by omega); have y : w.heap.size ≤ w'.heap.size := (by omega); have z : w.heap.size + 1 < w'.heap.size := (by omega); have y : w.heap.size + 1 ≤ w'.heap.size := (by omega); have z : w1.heap.size < w'.heap.size := (by omega); have y : w1.heap.size ≤ w'.heap.size := (by omega); (go_wp2_with fail; first | (refine ⟨Below.refl _ _, ?_⟩; rfl) | rfl | exact ⟨Below.refl _ _, trivial⟩))); simp only [Act.put, List.setIfInBounds_toArray, List.set_cons_zero, List.set_cons_succ])
  (refine Chain.pos _ rfl (fun w' hw' _ => ?_) ?_; focus (obtain ⟨hc', hf'⟩ := bcell hw'; have hz := hw'.size; simp only [World.size_alloc, World.size_setCell, World.size_drew] at hz; have z : w.heap.size < w'.heap.size := (by omega); have y : w.heap.size ≤ w'.heap.size := (by omega); have z : w.heap.size + 1 < w'.heap.size := (by omega); have y : w.heap.size + 1 ≤ w'.heap.size := (by omega); have z : w1.heap.size < w'.heap.size := (by omega); have y : w1.heap.size ≤ w'.heap.size := (by omega); (go_wp2_with fail; first | (refine ⟨Below.refl _ _, ?_⟩; rfl) | rfl | exact ⟨Below.refl _ _, trivial⟩))); simp only [Act.put, List.setIfInBounds_toArray, List.set_cons_zero, List.set_cons_succ]
  (refine Chain.pos _ rfl (fun w' hw' _ => ?_) ?_; focus (obtain ⟨hc', hf'⟩ := bcell hw'; have hz := hw'.size; simp only [World.size_alloc, World.size_setCell, World.size_drew] at hz; have z : w.heap.size < w'.heap.size := (by omega); have y : w.heap.size ≤ w'.heap.size := (by omega); have z : w.heap.size + 1 < w'.heap.size := (by omega); have y : w.heap.size + 1 ≤ w'.heap.size := (by omega); have z : w1.heap.size < w'.heap.size := (by omega); have y : w1.heap.size ≤ w'.heap.size := (by omega); (go_wp2_with fail; first | (refine ⟨Below.refl _ _, ?_⟩; rfl) | rfl | exact ⟨Below.refl _ _, trivial⟩))); simp only [Act.put, List.setIfInBounds_toArray, List.set_cons_zero, List.set_cons_succ]
  first | (refine Chain.skip rfl ?_ ?_; (focus rfl); simp only [Act.put, List.setIfInBounds_toArray, List.set_cons_zero, List.set_cons_succ]) | ((refine Chain.pos _ rfl (fun w' hw' _ => ?_) ?_; focus (obtain ⟨hc', hf'⟩ := bcell hw'; have hz := hw'.size; simp only [World.size_alloc, World.size_setCell, World.size_drew] at hz; have z : w.heap.size < w'.heap.size := (by omega); have y : w.heap.size ≤ w'.heap.size := (by omega); have z : w.heap.size + 1 < w'.heap.size := (by omega); have y : w.heap.size + 1 ≤ w'.heap.size := (by omega); have z : w1.heap.size < w'.heap.size := (by omega); have y : w1.heap.size ≤ w'.heap.size := (by omega); (go_wp2_with fail; first | ((with_reducible refine (awake01 _).mono ?_); rintro e w'' ⟨rfl, hb⟩; go_simp; first | rfl | (refine ⟨hb, ?_⟩; rfl))))); simp only [Act.put, List.setIfInBounds_toArray, List.set_cons_zero, List.set_cons_succ])
  (refine Chain.pos _ rfl (fun w' hw' _ => ?_) ?_; focus (obtain ⟨hc', hf'⟩ := bcell hw'; have hz := hw'.size; simp only [World.size_alloc, World.size_setCell, World.size_drew] at hz; have z : w.heap.size < w'.heap.size := (by omega); have y : w.heap.size ≤ w'.heap.size := (by omega); have z : w.heap.size + 1 < w'.heap.size := (by omega); have y : w.heap.size + 1 ≤ w'.heap.size := (by omega); have z : w1.heap.size < w'.heap.size := (by omega); have y : w1.heap.size ≤ w'.heap.size := (by omega); (go_wp2_with fail; first | (refine ⟨Below.refl _ _, ?_⟩; rfl) | rfl | exact ⟨Below.refl _ _, trivial⟩))); simp only [Act.put, List.setIfInBounds_toArray, List.set_cons_zero, List.set_cons_succ]
  (refine Chain.pos _ rfl (fun w' hw' _ => ?_) ?_; focus (obtain ⟨hc', hf'⟩ := bcell hw'; have hz := hw'.size; simp only [World.size_alloc, World.size_setCell, World.size_drew] at hz; have z : w.heap.size < w'.heap.size := (by omega); have y : w.heap.size ≤ w'.heap.size := (by omega); have z : w.heap.size + 1 < w'.heap.size := (by omega); have y : w.heap.size + 1 ≤ w'.heap.size := (by omega); have z : w1.heap.size < w'.heap.size := (by omega); have y : w1.heap.size ≤ w'.heap.size := (by omega); (go_wp2_with fail; first | (refine ⟨Below.refl _ _, ?_⟩; rfl) | rfl | exact ⟨Below.refl _ _, trivial⟩))); simp only [Act.put, List.setIfInBounds_toArray, List.set_cons_zero, List.set_cons_succ]
  intro w' hw' _
  obtain ⟨hc', hf'⟩ := bcell hw'
  have hz := hw'.size
  simp only [World.size_alloc, World.size_setCell, World.size_drew] at hz
  have z : w.heap.size < w'.heap.size := by omega
  have y : w.heap.size ≤ w'.heap.size := by omega
  have z : w.heap.size + 1 < w'.heap.size := by omega
  have y : w.heap.size + 1 ≤ w'.heap.size := by omega
  have z : w1.heap.size < w'.heap.size := by omega
  have y : w1.heap.size ≤ w'.heap.size := by omega
  go_wp2_with fail
  (refine bodyPost_ret (v := _) (by simp [results, Try.results6, go_sem]; rfl) rfl ⟨?_, ?_⟩)
  · rfl
  · (repeat (first | exact Below.refl _ _ | refine Below.setCell ?_ (by first | omega | (simp; done) | (simp; omega)) _ | refine Below.alloc ?_ (by first | omega | (simp; done) | (simp; omega)) _ | refine Below.drew ?_ | (refine Below.trans ?_ (Below.mono (by assumption) (by first | omega | (simp; done) | (simp; omega))))))

theorem refNew_walk (i t last : Int) (w : World) :
    Calls Try.prog 5 #[.agg #[.int .i64 i, .int .i64 t], .int .i64 last] w fun e w' => e = .returned (.bool true) ∧ Below w.heap.size w w' := by
  by_cases hy : 0 ≤ t ∧ t < last ∧ t < 4294967295 ∧ 0 ≤ i ∧ i ≤ 65534
  · obtain ⟨a, b, c⟩ := nx_yes hy
    obtain ⟨y1, y2, y3, y4, y5⟩ := hy
    have hg : good i (t + 1) = true := good_iff.2 ⟨by omega, by omega, by omega, by omega⟩
    go_enter Try.func5, Try.ntmps5
    go_wp2_with fail
    refine (next_any _ _ _ _).mono ?_
    rintro e w1 ⟨rfl, hb1⟩
    have hz1 := hb1.size
    (try simp only [World.size_alloc, World.size_setCell, World.size_drew] at hz1)
    obtain ⟨hc1, hf1⟩ := bcell hb1
    have z1_0 : w.heap.size < w1.heap.size := by omega
    have y1_0 : w.heap.size ≤ w1.heap.size := by omega
    go_wp2_with fail
    refine (good_any _ _ _).mono ?_
    rintro e w2 ⟨rfl, hb2⟩
    have hz2 := hb2.size
    (try simp only [World.size_alloc, World.size_setCell, World.size_drew] at hz2)
    obtain ⟨hc2, hf2⟩ := bcell hb2
    have z2_0 : w.heap.size < w2.heap.size := by omega
    have y2_0 : w.heap.size ≤ w2.heap.size := by omega
    have z2_1 : w1.heap.size < w2.heap.size := by omega
    have y2_1 : w1.heap.size ≤ w2.heap.size := by omega
    go_wp2_with fail
    refine (awake01 _).mono ?_
    rintro e w3 ⟨rfl, hb3⟩
    have hz3 := hb3.size
    (try simp only [World.size_alloc, World.size_setCell, World.size_drew] at hz3)
    obtain ⟨hc3, hf3⟩ := bcell hb3
    have z3_0 : w.heap.size < w3.heap.size := by omega
    have y3_0 : w.heap.size ≤ w3.heap.size := by omega
    have z3_1 : w1.heap.size < w3.heap.size := by omega
    have y3_1 : w1.heap.size ≤ w3.heap.size := by omega
    go_wp2_with fail
    (refine bodyPost_ret (v := _) (by simp [results, Try.results5, go_sem]; rfl) rfl ⟨?_, ?_⟩)
    · rfl
    · (repeat (first | exact Below.refl _ _ | refine Below.setCell ?_ (by first | omega | (simp; done) | (simp; omega)) _ | refine Below.alloc ?_ (by first | omega | (simp; done) | (simp; omega)) _ | refine Below.drew ?_ | (refine Below.trans ?_ (Below.mono (by assumption) (by first | omega | (simp; done) | (simp; omega))))))
  · obtain ⟨a, b, c⟩ := nx_no hy
    go_enter Try.func5, Try.ntmps5
    go_wp2_with fail
    refine (next_any _ _ _ _).mono ?_
    rintro e w1 ⟨rfl, hb1⟩
    have hz1 := hb1.size
    (try simp only [World.size_alloc, World.size_setCell, World.size_drew] at hz1)
    obtain ⟨hc1, hf1⟩ := bcell hb1
    have z1_0 : w.heap.size < w1.heap.size := by omega
    have y1_0 : w.heap.size ≤ w1.heap.size := by omega
    go_wp2_with fail
    refine (awake01 _).mono ?_
    rintro e w2 ⟨rfl, hb2⟩
    have hz2 := hb2.size
    (try simp only [World.size_alloc, World.size_setCell, World.size_drew] at hz2)
    obtain ⟨hc2, hf2⟩ := bcell hb2
    have z2_0 : w.heap.size < w2.heap.size := by omega
    have y2_0 : w.heap.size ≤ w2.heap.size := by omega
    have z2_1 : w1.heap.size < w2.heap.size := by omega
    have y2_1 : w1.heap.size ≤ w2.heap.size := by omega
    go_wp2_with fail
    (refine bodyPost_ret (v := _) (by simp [results, Try.results5, go_sem]; rfl) rfl ⟨?_, ?_⟩)
    · rfl
    · (repeat (first | exact Below.refl _ _ | refine Below.setCell ?_ (by first | omega | (simp; done) | (simp; omega)) _ | refine Below.alloc ?_ (by first | omega | (simp; done) | (simp; omega)) _ | refine Below.drew ?_ | (refine Below.trans ?_ (Below.mono (by assumption) (by first | omega | (simp; done) | (simp; omega))))))

theorem refHandles_walk (p g h : Int) (w : World) :
    Calls Try.prog 8 #[.int .i64 p, .int .i64 g, .int .i64 h] w fun e w' => e = .returned (.bool true) ∧ Below w.heap.size w w' := by
  cases k1 : plOk h <;> cases k2 : plOk (hdl p g)
  · go_enter Try.func8, Try.ntmps8
    go_wp2_with fail
    refine (place_any _ _).mono ?_
    rintro e w1 ⟨rfl, hb1⟩
    have hz1 := hb1.size
    (try simp only [World.size_alloc, World.size_setCell, World.size_drew] at hz1)
    obtain ⟨hc1, hf1⟩ := bcell hb1
    go_wp2_with fail
    refine (place_ref _ _).mono ?_
    rintro e w2 ⟨rfl, hb2⟩
    have hz2 := hb2.size
    (try simp only [World.size_alloc, World.size_setCell, World.size_drew] at hz2)
    obtain ⟨hc2, hf2⟩ := bcell hb2
    go_wp2_with fail
    refine (handle_any _ _ _).mono ?_
    rintro e w3 ⟨rfl, hb3⟩
    have hz3 := hb3.size
    (try simp only [World.size_alloc, World.size_setCell, World.size_drew] at hz3)
    obtain ⟨hc3, hf3⟩ := bcell hb3
    go_wp2_with fail
    refine (handle_ref _ _ _).mono ?_
    rintro e w4 ⟨rfl, hb4⟩
    have hz4 := hb4.size
    (try simp only [World.size_alloc, World.size_setCell, World.size_drew] at hz4)
    obtain ⟨hc4, hf4⟩ := bcell hb4
    go_wp2_with fail
    refine (handle_any _ _ _).mono ?_
    rintro e w5 ⟨rfl, hb5⟩
    have hz5 := hb5.size
    (try simp only [World.size_alloc, World.size_setCell, World.size_drew] at hz5)
    obtain ⟨hc5, hf5⟩ := bcell hb5
    go_wp2_with fail
    refine (place_any _ _).mono ?_
    rintro e w6 ⟨rfl, hb6⟩
    have hz6 := hb6.size
    (try simp only [World.size_alloc, World.size_setCell, World.size_drew] at hz6)
    obtain ⟨hc6, hf6⟩ := bcell hb6
    go_wp2_with fail
    refine (awake01 _).mono ?_
    rintro e w7 ⟨rfl, hb7⟩
    have hz7 := hb7.size
    (try simp only [World.size_alloc, World.size_setCell, World.size_drew] at hz7)
    obtain ⟨hc7, hf7⟩ := bcell hb7
    go_wp2_with fail
    (refine bodyPost_ret (v := _) (by simp [results, Try.results8, go_sem]; rfl) rfl ⟨?_, ?_⟩)
    · rfl
    · (repeat (first | exact Below.refl _ _ | refine Below.setCell ?_ (by first | omega | (simp; done) | (simp; omega)) _ | refine Below.alloc ?_ (by first | omega | (simp; done) | (simp; omega)) _ | refine Below.drew ?_ | (refine Below.trans ?_ (Below.mono (by assumption) (by first | omega | (simp; done) | (simp; omega))))))
  · obtain ⟨e1, e2⟩ := pl_hdl k2
    go_enter Try.func8, Try.ntmps8
    go_wp2_with fail
    refine (place_any _ _).mono ?_
    rintro e w1 ⟨rfl, hb1⟩
    have hz1 := hb1.size
    (try simp only [World.size_alloc, World.size_setCell, World.size_drew] at hz1)
    obtain ⟨hc1, hf1⟩ := bcell hb1
    go_wp2_with fail
    refine (place_ref _ _).mono ?_
    rintro e w2 ⟨rfl, hb2⟩
    have hz2 := hb2.size
    (try simp only [World.size_alloc, World.size_setCell, World.size_drew] at hz2)
    obtain ⟨hc2, hf2⟩ := bcell hb2
    go_wp2_with fail
    refine (handle_any _ _ _).mono ?_
    rintro e w3 ⟨rfl, hb3⟩
    have hz3 := hb3.size
    (try simp only [World.size_alloc, World.size_setCell, World.size_drew] at hz3)
    obtain ⟨hc3, hf3⟩ := bcell hb3
    go_wp2_with fail
    refine (handle_ref _ _ _).mono ?_
    rintro e w4 ⟨rfl, hb4⟩
    have hz4 := hb4.size
    (try simp only [World.size_alloc, World.size_setCell, World.size_drew] at hz4)
    obtain ⟨hc4, hf4⟩ := bcell hb4
    go_wp2_with fail
    refine (handle_any _ _ _).mono ?_
    rintro e w5 ⟨rfl, hb5⟩
    have hz5 := hb5.size
    (try simp only [World.size_alloc, World.size_setCell, World.size_drew] at hz5)
    obtain ⟨hc5, hf5⟩ := bcell hb5
    go_wp2_with fail
    refine (place_any _ _).mono ?_
    rintro e w6 ⟨rfl, hb6⟩
    have hz6 := hb6.size
    (try simp only [World.size_alloc, World.size_setCell, World.size_drew] at hz6)
    obtain ⟨hc6, hf6⟩ := bcell hb6
    go_wp2_with fail
    refine (awake01 _).mono ?_
    rintro e w7 ⟨rfl, hb7⟩
    have hz7 := hb7.size
    (try simp only [World.size_alloc, World.size_setCell, World.size_drew] at hz7)
    obtain ⟨hc7, hf7⟩ := bcell hb7
    go_wp2_with fail
    (refine bodyPost_ret (v := _) (by simp [results, Try.results8, go_sem]; rfl) rfl ⟨?_, ?_⟩)
    · rfl
    · (repeat (first | exact Below.refl _ _ | refine Below.setCell ?_ (by first | omega | (simp; done) | (simp; omega)) _ | refine Below.alloc ?_ (by first | omega | (simp; done) | (simp; omega)) _ | refine Below.drew ?_ | (refine Below.trans ?_ (Below.mono (by assumption) (by first | omega | (simp; done) | (simp; omega))))))
  · have e3 := hdl_pl k1
    go_enter Try.func8, Try.ntmps8
    go_wp2_with fail
    refine (place_any _ _).mono ?_
    rintro e w1 ⟨rfl, hb1⟩
    have hz1 := hb1.size
    (try simp only [World.size_alloc, World.size_setCell, World.size_drew] at hz1)
    obtain ⟨hc1, hf1⟩ := bcell hb1
    go_wp2_with fail
    refine (place_ref _ _).mono ?_
    rintro e w2 ⟨rfl, hb2⟩
    have hz2 := hb2.size
    (try simp only [World.size_alloc, World.size_setCell, World.size_drew] at hz2)
    obtain ⟨hc2, hf2⟩ := bcell hb2
    go_wp2_with fail
    refine (handle_any _ _ _).mono ?_
    rintro e w3 ⟨rfl, hb3⟩
    have hz3 := hb3.size
    (try simp only [World.size_alloc, World.size_setCell, World.size_drew] at hz3)
    obtain ⟨hc3, hf3⟩ := bcell hb3
    go_wp2_with fail
    refine (handle_ref _ _ _).mono ?_
    rintro e w4 ⟨rfl, hb4⟩
    have hz4 := hb4.size
    (try simp only [World.size_alloc, World.size_setCell, World.size_drew] at hz4)
    obtain ⟨hc4, hf4⟩ := bcell hb4
    go_wp2_with fail
    refine (handle_any _ _ _).mono ?_
    rintro e w5 ⟨rfl, hb5⟩
    have hz5 := hb5.size
    (try simp only [World.size_alloc, World.size_setCell, World.size_drew] at hz5)
    obtain ⟨hc5, hf5⟩ := bcell hb5
    go_wp2_with fail
    refine (handle_any _ _ _).mono ?_
    rintro e w6 ⟨rfl, hb6⟩
    have hz6 := hb6.size
    (try simp only [World.size_alloc, World.size_setCell, World.size_drew] at hz6)
    obtain ⟨hc6, hf6⟩ := bcell hb6
    go_wp2_with fail
    refine (place_any _ _).mono ?_
    rintro e w7 ⟨rfl, hb7⟩
    have hz7 := hb7.size
    (try simp only [World.size_alloc, World.size_setCell, World.size_drew] at hz7)
    obtain ⟨hc7, hf7⟩ := bcell hb7
    go_wp2_with fail
    refine (awake01 _).mono ?_
    rintro e w8 ⟨rfl, hb8⟩
    have hz8 := hb8.size
    (try simp only [World.size_alloc, World.size_setCell, World.size_drew] at hz8)
    obtain ⟨hc8, hf8⟩ := bcell hb8
    go_wp2_with fail
    (refine bodyPost_ret (v := _) (by simp [results, Try.results8, go_sem]; rfl) rfl ⟨?_, ?_⟩)
    · rfl
    · (repeat (first | exact Below.refl _ _ | refine Below.setCell ?_ (by first | omega | (simp; done) | (simp; omega)) _ | refine Below.alloc ?_ (by first | omega | (simp; done) | (simp; omega)) _ | refine Below.drew ?_ | (refine Below.trans ?_ (Below.mono (by assumption) (by first | omega | (simp; done) | (simp; omega))))))
  · obtain ⟨e1, e2⟩ := pl_hdl k2
    have e3 := hdl_pl k1
    go_enter Try.func8, Try.ntmps8
    go_wp2_with fail
    refine (place_any _ _).mono ?_
    rintro e w1 ⟨rfl, hb1⟩
    have hz1 := hb1.size
    (try simp only [World.size_alloc, World.size_setCell, World.size_drew] at hz1)
    obtain ⟨hc1, hf1⟩ := bcell hb1
    go_wp2_with fail
    refine (place_ref _ _).mono ?_
    rintro e w2 ⟨rfl, hb2⟩
    have hz2 := hb2.size
    (try simp only [World.size_alloc, World.size_setCell, World.size_drew] at hz2)
    obtain ⟨hc2, hf2⟩ := bcell hb2
    go_wp2_with fail
    refine (handle_any _ _ _).mono ?_
    rintro e w3 ⟨rfl, hb3⟩
    have hz3 := hb3.size
    (try simp only [World.size_alloc, World.size_setCell, World.size_drew] at hz3)
    obtain ⟨hc3, hf3⟩ := bcell hb3
    go_wp2_with fail
    refine (handle_ref _ _ _).mono ?_
    rintro e w4 ⟨rfl, hb4⟩
    have hz4 := hb4.size
    (try simp only [World.size_alloc, World.size_setCell, World.size_drew] at hz4)
    obtain ⟨hc4, hf4⟩ := bcell hb4
    go_wp2_with fail
    refine (handle_any _ _ _).mono ?_
    rintro e w5 ⟨rfl, hb5⟩
    have hz5 := hb5.size
    (try simp only [World.size_alloc, World.size_setCell, World.size_drew] at hz5)
    obtain ⟨hc5, hf5⟩ := bcell hb5
    go_wp2_with fail
    refine (handle_any _ _ _).mono ?_
    rintro e w6 ⟨rfl, hb6⟩
    have hz6 := hb6.size
    (try simp only [World.size_alloc, World.size_setCell, World.size_drew] at hz6)
    obtain ⟨hc6, hf6⟩ := bcell hb6
    go_wp2_with fail
    refine (place_any _ _).mono ?_
    rintro e w7 ⟨rfl, hb7⟩
    have hz7 := hb7.size
    (try simp only [World.size_alloc, World.size_setCell, World.size_drew] at hz7)
    obtain ⟨hc7, hf7⟩ := bcell hb7
    go_wp2_with fail
    refine (awake01 _).mono ?_
    rintro e w8 ⟨rfl, hb8⟩
    have hz8 := hb8.size
    (try simp only [World.size_alloc, World.size_setCell, World.size_drew] at hz8)
    obtain ⟨hc8, hf8⟩ := bcell hb8
    go_wp2_with fail
    (refine bodyPost_ret (v := _) (by simp [results, Try.results8, go_sem]; rfl) rfl ⟨?_, ?_⟩)
    · rfl
    · (repeat (first | exact Below.refl _ _ | refine Below.setCell ?_ (by first | omega | (simp; done) | (simp; omega)) _ | refine Below.alloc ?_ (by first | omega | (simp; done) | (simp; omega)) _ | refine Below.drew ?_ | (refine Below.trans ?_ (Below.mono (by assumption) (by first | omega | (simp; done) | (simp; omega))))))
end Go.Proofs.Ytefghbdecnbpjaa
