/- Joined: XTStab. -/
import Derived.Test.YtbpgopomninedaaGreatKAa
namespace Go.Proofs.YtbpgopomninedaaGreat
set_option linter.unusedVariables false
set_option linter.unusedSimpArgs false
set_option linter.unnecessarySimpa false
variable {α : Type} {key : α → Int}
def insS (key : α → Int) (x : α) : List α → List α
 | [] => [x]
 | y :: s => if key x < key y then x :: y :: s else y :: insS key x s
def isort (key : α → Int) (l : List α) : List α := l.foldl (fun s x => insS key x s) []
def srtd (key : α → Int) (l : List α) : Prop := l.Pairwise fun a b => key a ≤ key b
theorem insS_mem {x z : α} : ∀ {s : List α}, z ∈ insS key x s ↔ z = x ∨ z ∈ s
 | [] => by simp [insS]
 | y :: s => by
  unfold insS
  split
  ·simp
  ·simp only [List.mem_cons, insS_mem (s := s)]
   constructor
   ·rintro (h | h | h) <;> simp [h]
   ·rintro (h | h | h) <;> simp [h]
theorem insS_len {x : α} : ∀ {s : List α}, (insS key x s).length = s.length + 1
 | [] => rfl
 | y :: s => by
  unfold insS
  split
  ·simp
  ·simp [insS_len (s := s)]
theorem insS_srtd {x : α} : ∀ {s : List α}, srtd key s → srtd key (insS key x s)
 | [], _ => by simp [insS, srtd]
 | y :: s, h => by
  obtain ⟨h1, h2⟩ := List.pairwise_cons.1 h
  unfold insS
  split
  ·rename_i hx
   refine List.pairwise_cons.2 ⟨fun z hz => ?_, h⟩
   rcases List.mem_cons.1 hz with rfl | hz
   ·omega
   ·have := h1 z hz; omega
  ·rename_i hx
   refine List.pairwise_cons.2 ⟨fun z hz => ?_, insS_srtd h2⟩
   rcases insS_mem.1 hz with rfl | hz
   ·omega
   ·exact h1 z hz
theorem insS_at {x : α} : ∀ {S1 S2 : List α}, (∀ y ∈ S1, ¬ key x < key y) → (∀ y ∈ S2, key x < key y) → insS key x (S1 ++ S2) = S1 ++ x :: S2
 | [], [], _, _ => rfl
 | [], y :: s, _, h => by simp only [List.nil_append]; unfold insS; rw [if_pos (h y (by simp))]
 | y :: s, S2, h, h2 => by
  simp only [List.cons_append]; unfold insS
  rw [if_neg (h y (by simp)), insS_at (fun z hz => h z (by simp [hz])) h2]
theorem isort_next {l : List α} {x : α} : isort key (l ++ [x]) = insS key x (isort key l) := by unfold isort; rw [List.foldl_append]; rfl
theorem isort_all (key : α → Int) (l : List α) : srtd key (isort key l) ∧ (isort key l).length = l.length ∧ ∀ z, z ∈ isort key l ↔ z ∈ l := by
 unfold isort
 suffices h : ∀ (l s : List α), srtd key s → srtd key (l.foldl (fun s x => insS key x s) s) ∧ (l.foldl (fun s x => insS key x s) s).length = l.length + s.length ∧ ∀ z, z ∈ l.foldl (fun s x => insS key x s) s ↔ z ∈ l ∨ z ∈ s by
  obtain ⟨h1, h2, h3⟩ := h l [] List.Pairwise.nil
  exact ⟨h1, by simpa using h2, fun z => by simpa using h3 z⟩
 intro l
 induction l with
 | nil => intro s hs; exact ⟨hs, by simp, fun z => by simp⟩
 | cons x l ih =>
  intro s hs
  obtain ⟨h1, h2, h3⟩ := ih (insS key x s) (insS_srtd hs)
  refine ⟨h1, by rw [List.foldl_cons, h2, insS_len]; simp; omega, fun z => ?_⟩
  rw [List.foldl_cons, h3, insS_mem, List.mem_cons]
  constructor
  ·rintro (h | h | h) <;> simp [h]
  ·rintro ((h | h) | h) <;> simp [h]
theorem isort_mem {l : List α} {z : α} : z ∈ isort key l ↔ z ∈ l := (isort_all key l).2.2 z
theorem isort_len (l : List α) : (isort key l).length = l.length := (isort_all key l).2.1
def srt (key : α → Int) (l : List α) (a b : Nat) : List α := l.take a ++ isort key ((l.drop a).take (b - a)) ++ l.drop b
theorem srt_len {l : List α} {a b : Nat} (h : a ≤ b) (hb : b ≤ l.length) : (srt key l a b).length = l.length := by
 unfold srt; simp only [List.length_append, List.length_take, isort_len, List.length_drop]; omega
theorem srt_same {l : List α} {a : Nat} : srt key l a a = l := by
 unfold srt; simp [isort]
theorem seg_next {l : List α} {a i : Nat} {x : α} (h : a ≤ i) (hx : l[i]? = some x) : (l.drop a).take (i + 1 - a) = (l.drop a).take (i - a) ++ [x] := by
 rw [show i + 1 - a = (i - a) + 1 by omega, List.take_add_one, List.getElem?_drop, show a + (i - a) = i by omega, hx]; rfl
theorem drop_next {l : List α} {i : Nat} {x : α} (hx : l[i]? = some x) : l.drop i = x :: l.drop (i + 1) := by
 obtain ⟨h, e⟩ := List.getElem?_eq_some_iff.1 hx
 rw [List.drop_eq_getElem_cons h, e]
theorem srt_one {l : List α} {a : Nat} (h : a < l.length) : srt key l a (a + 1) = l := by
 obtain ⟨x, hx⟩ : ∃ x, l[a]? = some x := ⟨_, List.getElem?_eq_getElem h⟩
 unfold srt
 rw [seg_next (Nat.le_refl _) hx, Nat.sub_self, List.take_zero, isort_next]
 show l.take a ++ [x] ++ l.drop (a + 1) = l
 rw [List.append_assoc, List.singleton_append, ← drop_next hx, List.take_append_drop]
theorem swap_at {P R : List α} {x y : α} {i j : Nat} (hj : j = P.length + 1) (hi : i = P.length) : ((P ++ y :: x :: R).set j y).set i x = P ++ x :: y :: R := by
 subst hj hi
 rw [List.set_append, if_neg (by omega), show P.length + 1 - P.length = 1 by omega, List.set_append, if_neg (by omega), Nat.sub_self]; rfl
def SE (key : α → Int) (l L : List α) : Prop := ∀ k : Int, L.filter (fun x => decide (key x = k)) = l.filter (fun x => decide (key x = k))
theorem SE.refl (l : List α) : SE key l l := fun _ => rfl
theorem SE.trans {a b c : List α} (h : SE key a b) (k : SE key b c) : SE key a c := fun i => (k i).trans (h i)
theorem SE.symm {a b : List α} (h : SE key a b) : SE key b a := fun i => (h i).symm
theorem SE.append {a b c d : List α} (h : SE key a b) (k : SE key c d) : SE key (a ++ c) (b ++ d) := fun i => by rw [List.filter_append, List.filter_append, h i, k i]
theorem SE.mem {a b : List α} (h : SE key a b) {x : α} : x ∈ b ↔ x ∈ a := by
 have e := h (key x)
 have h1 : x ∈ b ↔ x ∈ b.filter (fun y => decide (key y = key x)) := by simp
 have h2 : x ∈ a ↔ x ∈ a.filter (fun y => decide (key y = key x)) := by simp
 rw [h1, h2, e]
theorem filter_none {l : List α} {k : Int} (h : ∀ x ∈ l, key x ≠ k) : l.filter (fun x => decide (key x = k)) = [] := by
 rw [List.filter_eq_nil_iff]; intro x hx; simp [h x hx]
theorem SE.swap {a b : List α} (h : ∀ x ∈ a, ∀ y ∈ b, key x ≠ key y) : SE key (a ++ b) (b ++ a) := fun k => by
 rw [List.filter_append, List.filter_append]
 by_cases hx : ∃ x ∈ a, key x = k
 ·obtain ⟨x, hx, rfl⟩ := hx
  rw [filter_none (l := b) fun y hy e => h x hx y hy e.symm]; simp
 ·rw [filter_none (l := a) fun y hy e => hx ⟨y, hy, e⟩]; simp
theorem insS_se {x : α} : ∀ {s : List α}, srtd key s → SE key (s ++ [x]) (insS key x s)
 | [], _ => SE.refl _
 | y :: s, h => by
  obtain ⟨h1, h2⟩ := List.pairwise_cons.1 h
  unfold insS
  split
  ·rename_i hx
   refine SE.swap (a := y :: s) (b := [x]) fun z hz w hw => ?_
   simp at hw; subst hw
   rcases List.mem_cons.1 hz with rfl | hz
   ·omega
   ·have := h1 z hz; omega
  ·exact SE.append (a := [y]) (b := [y]) (SE.refl _) (insS_se h2)
theorem isort_se (key : α → Int) (l : List α) : SE key l (isort key l) := by
 suffices h : ∀ r : List α, SE key r.reverse (isort key r.reverse) by simpa using h l.reverse
 intro r
 induction r with
 | nil => exact SE.refl _
 | cons x r ih =>
  rw [List.reverse_cons, isort_next]
  exact (SE.append ih (SE.refl [x])).trans (insS_se (isort_all _ _).1)
theorem srtd_unique : ∀ {L M : List α}, srtd key L → srtd key M → SE key L M → L = M
 | [], [], _, _, _ => rfl
 | [], y :: M, _, _, h => by have := (h.mem (x := y)).1 (by simp); simp at this
 | x :: L, [], _, _, h => by have := (h.mem (x := x)).2 (by simp); simp at this
 | x :: L, y :: M, h1, h2, h => by
  obtain ⟨a1, a2⟩ := List.pairwise_cons.1 h1
  obtain ⟨b1, b2⟩ := List.pairwise_cons.1 h2
  have e1 : key x ≤ key y := by
   rcases List.mem_cons.1 ((h.mem (x := y)).1 (by simp)) with rfl | hm
   ·exact Int.le_refl _
   ·exact a1 y hm
  have e2 : key y ≤ key x := by
   rcases List.mem_cons.1 ((h.mem (x := x)).2 (by simp)) with rfl | hm
   ·exact Int.le_refl _
   ·exact b1 x hm
  have e3 : key y = key x := by omega
  have e4 := h (key x)
  rw [List.filter_cons, List.filter_cons, if_pos (by simp [e3]), if_pos (by simp)] at e4
  obtain ⟨rfl, _⟩ := List.cons.inj e4
  rw [srtd_unique a2 b2 fun k => ?_]
  have e5 := h k
  rw [List.filter_cons, List.filter_cons] at e5
  split at e5
  ·exact (List.cons.inj e5).2
  ·exact e5
theorem isort_of {l L : List α} (h : srtd key L) (hs : SE key l L) : isort key l = L := srtd_unique (isort_all _ _).1 h ((isort_se key l).symm.trans hs)
theorem isort_srtd {l : List α} (h : srtd key l) : isort key l = l := isort_of h (SE.refl _)
theorem srtd_app {a b : List α} : srtd key (a ++ b) ↔ srtd key a ∧ srtd key b ∧ ∀ x ∈ a, ∀ y ∈ b, key x ≤ key y := List.pairwise_append
theorem srt_app {P M S : List α} {a b : Nat} (ha : a = P.length) (hb : b = P.length + M.length) : srt key (P ++ M ++ S) a b = P ++ isort key M ++ S := by
 subst ha hb
 have e1 : (P ++ M ++ S).take P.length = P := by simp
 have e2 : (P ++ M ++ S).drop P.length = M ++ S := by simp
 have e3 : (P ++ M ++ S).drop (P.length + M.length) = S := by rw [← List.length_append, List.drop_left]
 unfold srt
 rw [e1, e2, e3, Nat.add_sub_cancel_left, List.take_left]
theorem merge_split {P A B C D S : List α} (hA : srtd key (A ++ B)) (hC : srtd key (C ++ D)) (h1 : ∀ x ∈ A, ∀ y ∈ D, key x ≤ key y) (h2 : ∀ x ∈ B, ∀ y ∈ C, key y < key x) :
  P ++ isort key (A ++ C) ++ isort key (B ++ D) ++ S = P ++ isort key (A ++ B ++ C ++ D) ++ S := by
 obtain ⟨a1, a2, a3⟩ := srtd_app.1 hA
 obtain ⟨c1, c2, c3⟩ := srtd_app.1 hC
 have : isort key (A ++ B ++ C ++ D) = isort key (A ++ C) ++ isort key (B ++ D) := by
  refine isort_of (srtd_app.2 ⟨(isort_all _ _).1, (isort_all _ _).1, fun x hx y hy => ?_⟩) ?_
  ·rw [isort_mem] at hx hy
   rcases List.mem_append.1 hx with hx | hx <;> rcases List.mem_append.1 hy with hy | hy
   ·exact a3 x hx y hy
   ·exact h1 x hx y hy
   ·have := h2 y hy x hx; omega
   ·exact c3 x hx y hy
  ·refine SE.trans (b := (A ++ C) ++ (B ++ D)) ?_ ((isort_se _ _).append (isort_se _ _))
   have e : SE key (B ++ C) (C ++ B) := SE.swap fun x hx y hy => by have := h2 x hx y hy; omega
   have := ((SE.refl A).append e).append (SE.refl D)
   simpa [List.append_assoc] using this
 rw [this]; simp [List.append_assoc]
def swp [Inhabited α] (l : List α) (i j : Nat) : List α := (l.set i (l.getD j default)).set j (l.getD i default)
theorem swp_at [Inhabited α] {P M S : List α} {x y : α} {i j : Nat} (hi : i = P.length) (hj : j = P.length + 1 + M.length) : swp (P ++ x :: (M ++ y :: S)) i j = P ++ y :: (M ++ x :: S) := by
 subst hi hj
 have e1 : (P ++ x :: (M ++ y :: S)).getD P.length default = x := by simp [List.getD_eq_getElem?_getD]
 have e2 : (P ++ x :: (M ++ y :: S)).getD (P.length + 1 + M.length) default = y := by
  rw [List.getD_eq_getElem?_getD, List.getElem?_append_right (by omega), show P.length + 1 + M.length - P.length = M.length + 1 by omega, List.getElem?_cons_succ]; simp
 unfold swp
 rw [e1, e2, List.set_append, if_neg (by omega), Nat.sub_self, List.set_cons_zero, List.set_append, if_neg (by omega), show P.length + 1 + M.length - P.length = M.length + 1 by omega, List.set_cons_succ, List.set_append, if_neg (by omega), Nat.sub_self, List.set_cons_zero]
def swr [Inhabited α] (l : List α) (a b : Nat) : Nat → List α
 | 0 => l
 | n + 1 => swr (swp l a b) (a + 1) (b + 1) n
theorem swr_at [Inhabited α] : ∀ {P X M Y S : List α} {a b n : Nat}, a = P.length → b = P.length + X.length + M.length → n = X.length → n = Y.length → swr (P ++ X ++ M ++ Y ++ S) a b n = P ++ Y ++ M ++ X ++ S
 | P, [], M, [], S, a, b, n, _, _, h, _ => by simp at h; subst h; simp [swr]
 | P, x :: X, M, y :: Y, S, a, b, n + 1, ha, hb, hx, hy => by
  subst ha hb
  have e : swp (P ++ (x :: X) ++ M ++ (y :: Y) ++ S) P.length (P.length + (x :: X).length + M.length) = (P ++ [y]) ++ X ++ (M ++ [x]) ++ Y ++ S := by
   have := swp_at (P := P) (M := X ++ M) (S := Y ++ S) (x := x) (y := y) (i := P.length) (j := P.length + (x :: X).length + M.length) rfl (by simp; omega)
   simpa [List.append_assoc] using this
  rw [swr, e, swr_at (P := P ++ [y]) (M := M ++ [x]) (by simp) (by simp; omega) (by simpa using hx) (by simpa using hy)]
  simp [List.append_assoc]
 | _, [], _, _ :: _, _, _, _, _, _, _, h, k => by simp at h k; omega
 | _, _ :: _, _, [], _, _, _, _, _, _, h, k => by simp at h k; omega
 | _, _ :: _, _, _ :: _, _, _, _, 0, _, _, h, _ => by simp at h
def kat [Inhabited α] (key : α → Int) (l : List α) (i : Nat) : Int := key (l.getD i default)
theorem kat_of [Inhabited α] {l : List α} {i : Nat} {x : α} (h : l[i]? = some x) : kat key l i = key x := by unfold kat; rw [List.getD_eq_getElem?_getD, h]; rfl
def seg (l : List α) (a b : Nat) : List α := (l.drop a).take (b - a)
theorem seg_get {l : List α} {a b i : Nat} : (seg l a b)[i]? = if a + i < b then l[a + i]? else none := by
 unfold seg
 rw [List.getElem?_take]
 by_cases h : i < b - a
 ·rw [if_pos h, if_pos (by omega), List.getElem?_drop]
 ·rw [if_neg h, if_neg (by omega)]
theorem seg_mem {l : List α} {a b : Nat} {x : α} : x ∈ seg l a b ↔ ∃ i, a ≤ i ∧ i < b ∧ l[i]? = some x := by
 rw [List.mem_iff_getElem?]
 constructor
 ·rintro ⟨i, h⟩
  rw [seg_get] at h
  split at h
  ·exact ⟨a + i, by omega, by omega, h⟩
  ·cases h
 ·rintro ⟨i, h1, h2, h3⟩
  exact ⟨i - a, by rw [seg_get, if_pos (by omega), show a + (i - a) = i by omega]; exact h3⟩
theorem seg_len {l : List α} {a b : Nat} (hb : b ≤ l.length) : (seg l a b).length = b - a := by unfold seg; simp; omega
theorem seg_kat [Inhabited α] {l : List α} {a b : Nat} (h : srtd key (seg l a b)) {i j : Nat} (h1 : a ≤ i) (h2 : i ≤ j) (h3 : j < b) (hb : b ≤ l.length) : kat key l i ≤ kat key l j := by
 obtain ⟨x, hx⟩ : ∃ x, l[i]? = some x := ⟨_, List.getElem?_eq_getElem (by omega)⟩
 obtain ⟨y, hy⟩ : ∃ y, l[j]? = some y := ⟨_, List.getElem?_eq_getElem (by omega)⟩
 rw [kat_of hx, kat_of hy]
 by_cases e : i = j
 ·subst e; rw [hx] at hy; cases hy; exact Int.le_refl _
 ·have := List.pairwise_iff_getElem.1 h (i - a) (j - a) (by rw [seg_len hb]; omega) (by rw [seg_len hb]; omega) (by omega)
  have e1 : (seg l a b)[i - a]? = some x := by rw [seg_get, if_pos (by omega), show a + (i - a) = i by omega]; exact hx
  have e2 : (seg l a b)[j - a]? = some y := by rw [seg_get, if_pos (by omega), show a + (j - a) = j by omega]; exact hy
  rw [(List.getElem?_eq_some_iff.1 e1).2, (List.getElem?_eq_some_iff.1 e2).2] at this
  exact this
theorem seg_cat {l : List α} {a m b : Nat} (h1 : a ≤ m) (h2 : m ≤ b) : seg l a b = seg l a m ++ seg l m b := by
 apply List.ext_getElem?
 intro i
 by_cases hl : b ≤ l.length
 ·rw [List.getElem?_append, seg_len (by omega), seg_get, seg_get, seg_get]
  by_cases c : i < m - a
  ·rw [if_pos c]
   by_cases d : a + i < b
   ·rw [if_pos d, if_pos (by omega)]
   ·omega
  ·rw [if_neg c, show m + (i - (m - a)) = a + i by omega]
 ·unfold seg
  rw [show l.drop m = (l.drop a).drop (m - a) by rw [List.drop_drop]; congr 1; omega, show b - a = (m - a) + (b - m) by omega, List.take_add]
theorem seg_split {l : List α} {a b : Nat} (h : a ≤ b) : l = l.take a ++ seg l a b ++ l.drop b := by
 unfold seg
 rw [List.append_assoc]
 conv => lhs; rw [← List.take_append_drop a l]
 congr 1
 conv => lhs; rw [← List.take_append_drop (b - a) (l.drop a)]
 congr 1
 rw [List.drop_drop]; congr 1; omega
theorem srt_seg {l : List α} {a b : Nat} : srt key l a b = l.take a ++ isort key (seg l a b) ++ l.drop b := rfl
theorem srt_srtd {l : List α} {a b : Nat} (h : a ≤ b) (hs : srtd key (seg l a b)) : srt key l a b = l := by rw [srt_seg, isort_srtd hs, ← seg_split h]
theorem srt_se {l : List α} {a b : Nat} (h : a ≤ b) : SE key l (srt key l a b) := by
 have := ((SE.refl (l.take a)).append (isort_se key (seg l a b))).append (SE.refl (l.drop b))
 rw [← seg_split h] at this
 exact this
theorem isort_cons {x : α} {R1 R2 : List α} (hs : srtd key (R1 ++ R2)) (h1 : ∀ y ∈ R1, key y < key x) (h2 : ∀ y ∈ R2, key x ≤ key y) : isort key (x :: (R1 ++ R2)) = R1 ++ x :: R2 := by
 obtain ⟨a1, a2, a3⟩ := srtd_app.1 hs
 refine isort_of (srtd_app.2 ⟨a1, List.pairwise_cons.2 ⟨h2, a2⟩, fun y hy z hz => ?_⟩) ?_
 ·rcases List.mem_cons.1 hz with rfl | hz
  ·have := h1 y hy; omega
  ·exact a3 y hy z hz
 ·have e : SE key ([x] ++ R1) (R1 ++ [x]) := SE.swap fun y hy z hz => by
   simp at hy; subst hy; have := h1 z hz; omega
  have := e.append (SE.refl R2)
  simpa [List.append_assoc] using this
theorem isort_snoc {x : α} {R1 R2 : List α} (hs : srtd key (R1 ++ R2)) (h1 : ∀ y ∈ R1, key y ≤ key x) (h2 : ∀ y ∈ R2, key x < key y) : isort key (R1 ++ R2 ++ [x]) = R1 ++ x :: R2 := by
 rw [isort_next, isort_srtd hs]
 exact insS_at (fun y hy => by have := h1 y hy; omega) h2
def bub [Inhabited α] (l : List α) (a : Nat) : Nat → List α
 | 0 => l
 | n + 1 => bub (swp l a (a + 1)) (a + 1) n
theorem bub_at [Inhabited α] : ∀ {R P S : List α} {x : α} {a n : Nat}, a = P.length → n = R.length → bub (P ++ x :: (R ++ S)) a n = P ++ R ++ x :: S
 | [], P, S, x, a, n, _, h => by simp at h; subst h; simp [bub]
 | y :: R, P, S, x, a, 0, _, h => by simp at h
 | y :: R, P, S, x, a, n + 1, ha, h => by
  have e : swp (P ++ x :: ((y :: R) ++ S)) a (a + 1) = (P ++ [y]) ++ x :: (R ++ S) := by
   have := swp_at (P := P) (M := []) (S := R ++ S) (x := x) (y := y) (i := a) (j := a + 1) ha (by simp [ha])
   simpa [List.append_assoc] using this
  rw [bub, e, bub_at (by simp [ha]) (by simpa using h)]
  simp [List.append_assoc]
def bubd [Inhabited α] (l : List α) (k : Nat) : Nat → List α
 | 0 => l
 | n + 1 => bubd (swp l k (k - 1)) (k - 1) n
theorem bubd_at [Inhabited α] : ∀ {n : Nat} {R P S : List α} {x : α} {k : Nat}, k = P.length + R.length → n = R.length → bubd (P ++ R ++ x :: S) k n = P ++ x :: (R ++ S)
 | 0, R, P, S, x, k, _, h => by
  have : R = [] := List.eq_nil_of_length_eq_zero h.symm
  subst this; simp [bubd]
 | n + 1, R, P, S, x, k, hk, h => by
  obtain ⟨R0, y, rfl⟩ : ∃ R0 y, R = R0 ++ [y] := by
   have hne : R ≠ [] := by rintro rfl; simp at h
   exact ⟨_, _, (List.dropLast_concat_getLast hne).symm⟩
  simp only [List.length_append, List.length_singleton] at hk h
  have e : swp (P ++ (R0 ++ [y]) ++ x :: S) k (k - 1) = P ++ R0 ++ x :: (y :: S) := by
   have e0 : P ++ (R0 ++ [y]) ++ x :: S = (P ++ R0) ++ y :: x :: S := by simp [List.append_assoc]
   have e1 : ((P ++ R0) ++ y :: x :: S).getD (k - 1) default = y := by rw [List.getD_eq_getElem?_getD, List.getElem?_append_right (by simp; omega), show k - 1 - (P ++ R0).length = 0 by simp; omega]; rfl
   have e2 : ((P ++ R0) ++ y :: x :: S).getD k default = x := by rw [List.getD_eq_getElem?_getD, List.getElem?_append_right (by simp; omega), show k - (P ++ R0).length = 1 by simp; omega]; rfl
   rw [e0]; unfold swp; rw [e1, e2]
   exact swap_at (by simp; omega) (by simp; omega)
  rw [bubd, e, bubd_at (by omega) (by omega)]
  simp [List.append_assoc]
theorem take_seg {l : List α} {a : Nat} {x : α} (hx : l[a]? = some x) : seg l a (a + 1) = [x] := by
 unfold seg; rw [drop_next hx, Nat.add_sub_cancel_left]; rfl
theorem drop_seg {l : List α} {a b : Nat} (h : a ≤ b) : l.drop a = seg l a b ++ l.drop b := by
 unfold seg
 conv => lhs; rw [← List.take_append_drop (b - a) (l.drop a)]
 congr 1
 rw [List.drop_drop]; congr 1; omega
theorem merge_one [Inhabited α] {l : List α} {a b i : Nat} (ha : a + 1 ≤ i) (hib : i ≤ b) (hb : b ≤ l.length) (hs : srtd key (seg l (a + 1) b)) (h1 : a + 1 < i → kat key l (i - 1) < kat key l a) (h2 : i < b → kat key l a ≤ kat key l i) :
  bub l a (i - (a + 1)) = srt key l a b := by
 obtain ⟨x, hx⟩ : ∃ x, l[a]? = some x := ⟨_, List.getElem?_eq_getElem (by omega)⟩
 have e : l = l.take a ++ x :: (seg l (a + 1) i ++ (seg l i b ++ l.drop b)) := by
  conv => lhs; rw [← List.take_append_drop a l, drop_next hx, drop_seg ha, drop_seg hib]
 rw [srt_seg, seg_cat (m := a + 1) (by omega) (by omega), take_seg hx, seg_cat ha hib]
 rw [seg_cat ha hib] at hs
 rw [List.singleton_append, isort_cons hs (fun y hy => ?_) (fun y hy => ?_)]
 ·conv => lhs; rw [e, bub_at (by simp; omega) (by rw [seg_len (by omega)])]
  simp [List.append_assoc]
 ·obtain ⟨q, h3, h4, h5⟩ := seg_mem.1 hy
  rw [← seg_cat ha hib] at hs
  have := seg_kat hs h3 (show q ≤ i - 1 by omega) (by omega) hb
  rw [kat_of h5] at this
  have := h1 (by omega)
  rw [kat_of hx] at this
  omega
 ·obtain ⟨q, h3, h4, h5⟩ := seg_mem.1 hy
  rw [← seg_cat ha hib] at hs
  have := seg_kat hs ha h3 h4 hb
  rw [kat_of h5] at this
  have := h2 (by omega)
  rw [kat_of hx] at this
  omega
theorem merge_last [Inhabited α] {l : List α} {a m i : Nat} (ai : a ≤ i) (im : i ≤ m) (hm : m < l.length) (hs : srtd key (seg l a m)) (h1 : a < i → kat key l (i - 1) ≤ kat key l m) (h2 : i < m → kat key l m < kat key l i) :
  bubd l m (m - i) = srt key l a (m + 1) := by
 obtain ⟨x, hx⟩ : ∃ x, l[m]? = some x := ⟨_, List.getElem?_eq_getElem (by omega)⟩
 have e : l = (l.take a ++ seg l a i) ++ seg l i m ++ x :: l.drop (m + 1) := by
  conv => lhs; rw [← List.take_append_drop a l, drop_seg ai, drop_seg im, drop_next hx]
  simp [List.append_assoc]
 rw [srt_seg, seg_cat (m := m) (by omega) (by omega), take_seg hx, seg_cat ai im]
 rw [seg_cat ai im] at hs
 rw [isort_snoc hs (fun y hy => ?_) (fun y hy => ?_)]
 ·conv => lhs; rw [e, bubd_at (by simp [seg_len (show i ≤ l.length by omega), seg_len (show m ≤ l.length by omega)]; omega) (by rw [seg_len (by omega)])]
  simp [List.append_assoc]
 ·obtain ⟨q, h3, h4, h5⟩ := seg_mem.1 hy
  rw [← seg_cat ai im] at hs
  have := seg_kat hs h3 (show q ≤ i - 1 by omega) (by omega) (by omega)
  rw [kat_of h5] at this
  have := h1 (by omega)
  rw [kat_of hx] at this
  omega
 ·obtain ⟨q, h3, h4, h5⟩ := seg_mem.1 hy
  rw [← seg_cat ai im] at hs
  have := seg_kat hs ai h3 h4 (by omega)
  rw [kat_of h5] at this
  have := h2 (by omega)
  rw [kat_of hx] at this
  omega
def rot (l : List α) (a m b : Nat) : List α := l.take a ++ seg l m b ++ seg l a m ++ l.drop b
theorem rot_len {l : List α} {a m b : Nat} (h1 : a ≤ m) (h2 : m ≤ b) (hb : b ≤ l.length) : (rot l a m b).length = l.length := by
 unfold rot; simp only [List.length_append, List.length_take, List.length_drop, seg_len hb, seg_len (show m ≤ l.length by omega)]; omega
theorem split4 {l : List α} {a m b : Nat} (h1 : a ≤ m) (h2 : m ≤ b) : l = l.take a ++ seg l a m ++ seg l m b ++ l.drop b := by
 conv => lhs; rw [← List.take_append_drop a l, drop_seg h1, drop_seg h2]
 simp [List.append_assoc]
theorem rot_same {l : List α} {a m b : Nat} (h1 : a ≤ m) (h2 : m ≤ b) (h : ¬ (a < m ∧ m < b)) : rot l a m b = l := by
 conv => rhs; rw [split4 (l := l) h1 h2]
 unfold rot
 by_cases e : a = m
 ·subst e; rw [show seg l a a = [] by unfold seg; simp]; simp
 ·have : m = b := by omega
  subst this; rw [show seg l m m = [] by unfold seg; simp]; simp
theorem seg_app {P M S : List α} {a b : Nat} (ha : a = P.length) (hb : b = P.length + M.length) : seg (P ++ M ++ S) a b = M := by
 subst ha hb
 unfold seg
 rw [List.append_assoc, List.drop_left, Nat.add_sub_cancel_left, List.take_left]
theorem merge_mid [Inhabited α] {l : List α} {a m b st en mid : Nat} (h1 : a ≤ st) (h2 : st ≤ m) (h3 : m ≤ en) (h4 : en ≤ b) (hb : b ≤ l.length) (hmid : mid + m = st + en) (hs1 : srtd key (seg l a m)) (hs2 : srtd key (seg l m b))
  (f1 : a < st → en < b → kat key l (st - 1) ≤ kat key l en) (f2 : st < m → m < en → kat key l (en - 1) < kat key l st) :
  srtd key (seg (rot l st m en) a st) ∧ srtd key (seg (rot l st m en) st mid) ∧ srtd key (seg (srt key (rot l st m en) a mid) mid en) ∧ srtd key (seg (srt key (rot l st m en) a mid) en b) ∧ srt key (srt key (rot l st m en) a mid) mid b = srt key l a b := by
 have lA := seg_len (l := l) (a := a) (b := st) (by omega)
 have lB := seg_len (l := l) (a := st) (b := m) (by omega)
 have lC := seg_len (l := l) (a := m) (b := en) (by omega)
 have lD := seg_len (l := l) (a := en) (b := b) (by omega)
 have g1 : ∀ x ∈ seg l a st, ∀ y ∈ seg l en b, key x ≤ key y := fun x hx y hy => by
  obtain ⟨p, p1, p2, p3⟩ := seg_mem.1 hx
  obtain ⟨q, q1, q2, q3⟩ := seg_mem.1 hy
  have a1 := seg_kat hs1 p1 (show p ≤ st - 1 by omega) (by omega) (by omega)
  have a2 := seg_kat hs2 h3 q1 q2 hb
  have a3 := f1 (by omega) (by omega)
  rw [kat_of p3] at a1; rw [kat_of q3] at a2
  omega
 have g2 : ∀ x ∈ seg l st m, ∀ y ∈ seg l m en, key y < key x := fun x hx y hy => by
  obtain ⟨p, p1, p2, p3⟩ := seg_mem.1 hx
  obtain ⟨q, q1, q2, q3⟩ := seg_mem.1 hy
  have a1 := seg_kat hs1 h1 p1 p2 (by omega)
  have a2 := seg_kat hs2 q1 (show q ≤ en - 1 by omega) (by omega) hb
  have a3 := f2 (by omega) (by omega)
  rw [kat_of p3] at a1; rw [kat_of q3] at a2
  omega
 have eT : l.take st = l.take a ++ seg l a st := by
  have := seg_split (l := l) h1
  conv => lhs; rw [this, List.append_assoc, ← List.append_assoc]
  rw [List.take_left' (by simp only [List.length_append, List.length_take, lA]; omega)]
 have eD : l.drop en = seg l en b ++ l.drop b := drop_seg h4
 have eR : rot l st m en = l.take a ++ (seg l a st ++ seg l m en) ++ (seg l st m ++ (seg l en b ++ l.drop b)) := by
  unfold rot; rw [eT, eD]; simp [List.append_assoc]
 have eL : seg l a b = seg l a st ++ seg l st m ++ seg l m en ++ seg l en b := by rw [seg_cat (m := m) (by omega) (by omega), seg_cat h1 h2, seg_cat h3 h4]; simp [List.append_assoc]
 rw [seg_cat h1 h2] at hs1
 rw [seg_cat h3 h4] at hs2
 have hta : (l.take a).length = a := by rw [List.length_take]; omega
 have eS : srt key (rot l st m en) a mid = l.take a ++ isort key (seg l a st ++ seg l m en) ++ (seg l st m ++ (seg l en b ++ l.drop b)) := by
  rw [eR, srt_app (by omega) (by rw [hta, List.length_append, lA, lC]; omega)]
 have eS2 : srt key (rot l st m en) a mid = (l.take a ++ isort key (seg l a st ++ seg l m en)) ++ (seg l st m ++ seg l en b) ++ l.drop b := by rw [eS]; simp [List.append_assoc]
 have hP : (l.take a ++ isort key (seg l a st ++ seg l m en)).length = mid := by rw [List.length_append, isort_len, List.length_append, hta, lA, lC]; omega
 obtain ⟨a1, a2, a3⟩ := srtd_app.1 hs1
 obtain ⟨c1, c2, c3⟩ := srtd_app.1 hs2
 refine ⟨?_, ?_, ?_, ?_, ?_⟩
 ·rw [eR, show l.take a ++ (seg l a st ++ seg l m en) ++ (seg l st m ++ (seg l en b ++ l.drop b)) = l.take a ++ seg l a st ++ (seg l m en ++ (seg l st m ++ (seg l en b ++ l.drop b))) by simp [List.append_assoc], seg_app (by omega) (by omega)]
  exact a1
 ·rw [eR, show l.take a ++ (seg l a st ++ seg l m en) ++ (seg l st m ++ (seg l en b ++ l.drop b)) = (l.take a ++ seg l a st) ++ seg l m en ++ (seg l st m ++ (seg l en b ++ l.drop b)) by simp [List.append_assoc], seg_app (by rw [List.length_append]; omega) (by rw [List.length_append]; omega)]
  exact c1
 ·rw [eS, show l.take a ++ isort key (seg l a st ++ seg l m en) ++ (seg l st m ++ (seg l en b ++ l.drop b)) = (l.take a ++ isort key (seg l a st ++ seg l m en)) ++ seg l st m ++ (seg l en b ++ l.drop b) by simp [List.append_assoc], seg_app hP.symm (by rw [hP]; omega)]
  exact a2
 ·rw [eS, show l.take a ++ isort key (seg l a st ++ seg l m en) ++ (seg l st m ++ (seg l en b ++ l.drop b)) = (l.take a ++ isort key (seg l a st ++ seg l m en) ++ seg l st m) ++ seg l en b ++ l.drop b by simp [List.append_assoc], seg_app (by rw [List.length_append, hP]; omega) (by rw [List.length_append, hP]; omega)]
  exact c2
 ·rw [eS2, srt_app hP.symm (by rw [hP, List.length_append]; omega), srt_seg, eL]
  exact merge_split hs1 hs2 g1 g2
def blk (key : α → Int) (l : List α) (bs a b : Nat) : Prop := ∀ q, a ≤ q → q < b → srtd key (seg l (q * bs) (q * bs + bs))
theorem seg_srt {l : List α} {a b : Nat} (h : a ≤ b) (hb : b ≤ l.length) : seg (srt key l a b) a b = isort key (seg l a b) := by
 rw [srt_seg]; exact seg_app (by simp; omega) (by rw [isort_len, seg_len hb]; simp; omega)
theorem srt_get {l : List α} {a b i : Nat} (h : a ≤ b) (hb : b ≤ l.length) (hi : i < a ∨ b ≤ i) : (srt key l a b)[i]? = l[i]? := by
 have hta : (l.take a).length = a := by rw [List.length_take]; omega
 rw [srt_seg]
 rcases hi with hi | hi
 ·rw [List.append_assoc, List.getElem?_append_left (by omega), List.getElem?_take, if_pos hi]
 ·rw [List.getElem?_append_right (by rw [List.length_append, hta, isort_len, seg_len hb]; omega), List.length_append, hta, isort_len, seg_len hb, List.getElem?_drop]
  congr 1; omega
theorem srt_other {l : List α} {a b c d : Nat} (h : a ≤ b) (hb : b ≤ l.length) (hc : d ≤ a ∨ b ≤ c) : seg (srt key l a b) c d = seg l c d := by
 apply List.ext_getElem?
 intro i
 rw [seg_get, seg_get]
 split
 ·exact srt_get h hb (by omega)
 ·rfl
theorem seg_past {l : List α} {a b c : Nat} (hb : l.length ≤ b) (hc : l.length ≤ c) : seg l a b = seg l a c := by
 apply List.ext_getElem?
 intro i
 rw [seg_get, seg_get]
 split <;> split
 ·rfl
 ·rw [List.getElem?_eq_none (by omega)]
 ·rw [List.getElem?_eq_none (by omega)]
 ·rfl
theorem seg_none {l : List α} {a b : Nat} (h : l.length ≤ a) : seg l a b = [] := by
 apply List.ext_getElem?
 intro i
 rw [seg_get]
 split
 ·rw [List.getElem?_eq_none (by omega)]; rfl
 ·rfl
theorem srtd_nil : srtd key ([] : List α) := List.Pairwise.nil
theorem dvd_next {d a c : Nat} (hd : d ∣ a) (hc : d ∣ c) (h1 : a ≤ c) (h2 : c < a + d) : c = a := by
 have := Nat.eq_zero_of_dvd_of_lt (Nat.dvd_sub hc hd) (by omega)
 omega
theorem dvd_below {d a c : Nat} (hd : d ∣ a) (hc : d ∣ c) (h : c < a) : c + d ≤ a := by
 rcases Nat.lt_or_ge a (c + d) with k | k
 ·have := dvd_next hc hd (by omega) k; omega
 ·exact k
theorem dvd_above {d a c : Nat} (hd : d ∣ a) (hc : d ∣ c) (h : a < c) : a + d ≤ c := dvd_below hc hd h
theorem blk_next {l : List α} {d a : Nat} (hd : d ∣ a) (h : ∀ c, d ∣ c → c < a → srtd key (seg l c (c + d))) (hb : a + d ≤ l.length) : ∀ c, d ∣ c → c < a + d → srtd key (seg (srt key l a (a + d)) c (c + d)) := fun c hc hlt => by
 by_cases e : c < a
 ·rw [srt_other (by omega) hb (.inl (dvd_below hd hc e))]; exact h c hc e
 ·obtain rfl := dvd_next hd hc (by omega) hlt
  rw [seg_srt (by omega) hb]; exact (isort_all _ _).1
theorem blk_last {l : List α} {d a : Nat} (hd : d ∣ a) (h : ∀ c, d ∣ c → c < a → srtd key (seg l c (c + d))) (ha : a ≤ l.length) (hb : l.length < a + d) : ∀ c, d ∣ c → srtd key (seg (srt key l a l.length) c (c + d)) := fun c hc => by
 have hl := srt_len (key := key) ha (Nat.le_refl _)
 by_cases e : c < a
 ·rw [srt_other ha (Nat.le_refl _) (.inl (dvd_below hd hc e))]; exact h c hc e
 ·by_cases e2 : c = a
  ·subst e2
   rw [seg_past (c := l.length) (by omega) (by omega), seg_srt ha (Nat.le_refl _)]; exact (isort_all _ _).1
  ·have := dvd_above hd hc (by omega)
   rw [seg_none (by omega)]; exact srtd_nil
theorem blk_rest {l : List α} {d a : Nat} (hd : 2 * d ∣ a) (h : ∀ c, 2 * d ∣ c → c < a → srtd key (seg l c (c + 2 * d))) (h2 : ∀ c, d ∣ c → a ≤ c → srtd key (seg l c (c + d))) (hb : l.length ≤ a + d) : ∀ c, 2 * d ∣ c → srtd key (seg l c (c + 2 * d)) := fun c hc => by
 by_cases e : c < a
 ·exact h c hc e
 ·by_cases e2 : c = a
  ·subst e2
   rw [seg_past (c := c + d) (by omega) hb]; exact h2 c (Nat.dvd_trans (Nat.dvd_mul_left _ _) hc) (Nat.le_refl _)
  ·have := dvd_above hd hc (by omega)
   rw [seg_none (by omega)]; exact srtd_nil
theorem blk_others {l : List α} {d a b : Nat} (h2 : ∀ c, d ∣ c → a ≤ c → srtd key (seg l c (c + d))) (hab : a ≤ b) (hb : b ≤ l.length) : ∀ c, d ∣ c → b ≤ c → srtd key (seg (srt key l a b) c (c + d)) := fun c hc hle => by
 rw [srt_other hab hb (.inr hle)]; exact h2 c hc (by omega)
theorem blk_all {l m : List α} {d : Nat} (h : ∀ c, d ∣ c → srtd key (seg m c (c + d))) (hs : SE key l m) (hd : m.length ≤ d) : isort key l = m := by
 have := h 0 (Nat.dvd_zero _)
 rw [show seg m 0 (0 + d) = m by unfold seg; rw [List.drop_zero, List.take_of_length_le (by omega)]] at this
 exact isort_of this hs
theorem rot_mem {l : List α} {a m b : Nat} {x : α} (h : x ∈ rot l a m b) : x ∈ l := by
 unfold rot at h
 simp only [List.mem_append] at h
 rcases h with ((h | h) | h) | h
 ·exact List.mem_of_mem_take h
 ·exact List.mem_of_mem_drop (List.mem_of_mem_take h)
 ·exact List.mem_of_mem_drop (List.mem_of_mem_take h)
 ·exact List.mem_of_mem_drop h
theorem srt_mem {l : List α} {a b : Nat} (h : a ≤ b) {x : α} : x ∈ srt key l a b ↔ x ∈ l := (srt_se h).mem
end Go.Proofs.YtbpgopomninedaaGreat
