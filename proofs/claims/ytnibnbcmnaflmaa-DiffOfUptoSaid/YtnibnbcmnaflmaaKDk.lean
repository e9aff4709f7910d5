/- Joined: XTSortX, XTLay39, XTDiffE, XTIdx, XTConI. -/
import Derived.Test.YtnibnbcmnaflmaaKDc
import Derived.Test.YtnibnbcmnaflmaaKDh
import Derived.Sort.Grow
import Derived.Shelf.SlSortCmp.WholeK
import Derived.Shelf.SlSortCmp.NoneTotal
import Derived.Shelf.RegionOpenPlain
import Derived.Test.YtnibnbcmnaflmaaKDi
import Derived.Test.YtnibnbcmnaflmaaKDj
import Derived.Test.YtnibnbcmnaflmaaKDe
namespace Go.Proofs.Ytnibnbcmnaflmaa
open Go.RowKit
set_option linter.unusedVariables false
set_option linter.unusedSimpArgs false
set_option linter.unnecessarySimpa false
set_option maxRecDepth 100000
set_option maxHeartbeats 64000000
section
abbrev encX (x : DXg) : List Value := [.int .i64 x.addr, .int .u64 x.old, .int .u64 x.now]
abbrev cfX (x y : DXg) : Int := if x.addr < y.addr then -1 else 1
theorem ltX (x y : DXg) : Go.Proofs.ltOf cfX x y = decide (x.addr < y.addr) := by
 unfold Go.Proofs.ltOf cfX
 by_cases h : x.addr < y.addr <;> simp [h]
theorem swoX : Go.Sort.SWO (Go.Proofs.ltOf cfX) where
 irrefl x := by rw [ltX]; simp
 trans x y z h1 h2 := by rw [ltX] at *; simp at *; omega
 ntrans x y z h1 h2 := by rw [ltX] at *; simp at *; omega
abbrev srX (l : List DXg) : List DXg := l.foldl insX []
theorem srX_of {l D : List DXg} (hn : ndX l) (hp : ∀ z, z ∈ D ↔ z ∈ l) (hr : riX D) : D = srX l := by
 have key : ∀ (q : List DXg), ndX q → riX (srX q) ∧ ∀ z, z ∈ srX q ↔ z ∈ q := by
  intro q hq
  have : ∀ (n : Nat), n ≤ q.length → riX (srX (q.take n)) ∧ ∀ z, z ∈ srX (q.take n) ↔ z ∈ q.take n := by
   intro n
   induction n with
   | zero => intro _; exact ⟨List.Pairwise.nil, fun z => by simp [srX]⟩
   | succ n ih =>
    intro hle
    obtain ⟨h1, h2⟩ := ih (by omega)
    have hx : q[n]? = some q[n] := List.getElem?_eq_getElem (by omega)
    have e : srX (q.take (n + 1)) = insX (srX (q.take n)) q[n] := by unfold srX; rw [List.take_add_one, hx, List.foldl_append]; rfl
    rw [e]
    refine ⟨insX_ri h1 fun y hy he => ?_, fun z => ?_⟩
    ·obtain ⟨i, hi⟩ := List.getElem?_of_mem ((h2 y).1 hy)
     rw [List.getElem?_take] at hi
     split at hi
     ·have := fiX_one hq hi he
      have := fiX_one hq hx rfl
      omega
     ·cases hi
    ·rw [insX_mem, h2, List.take_add_one, hx, List.mem_append]
     simp [or_comm]
  have h := this q.length (Nat.le_refl _)
  rwa [List.take_length] at h
 obtain ⟨h1, h2⟩ := key l hn
 exact riX_eq hr h1 fun z => by rw [hp, h2]
theorem srX_len {l : List DXg} : (srX l).length = l.length := by
 have : ∀ (q O : List DXg), (q.foldl insX O).length = O.length + q.length := by
  intro q
  induction q with
  | nil => intro O; simp
  | cons x q ih =>
   intro O
   rw [List.foldl_cons, ih]
   unfold insX
   have := plX_le O x.addr O.length
   simp only [List.length_append, List.length_take, List.length_drop, List.length_singleton, List.length_cons, List.length_nil]
   omega
 have h := this l []
 simpa using h
theorem perm_srX {l : List DXg} (hn : ndX l) {d : Array DXg} (hp : Go.Sort.PermIn 0 l.length l.toArray d) (hs : Go.Sort.SortedIn (Go.Proofs.ltOf cfX) 0 l.length d) : d.toList = srX l := by
 obtain ⟨h1, _, h3⟩ := hp
 have hsz : d.size = l.length := by simpa using h1
 have e1 : (d.extract 0 l.length).toList = d.toList := by rw [← hsz]; simp
 have e2 : (l.toArray.extract 0 l.length).toList = l := by rw [Array.toList_extract]; simp [List.extract]
 rw [e1, e2] at h3
 refine srX_of hn (fun z => h3.mem_iff) ?_
 have hnd : (d.toList.map (·.addr)).Nodup := (h3.map (·.addr)).nodup_iff.2 hn
 refine List.pairwise_iff_getElem.2 fun i j hi hj hij => ?_
 have hj' : j < l.length := by simpa [hsz] using hj
 have h := hs i j (Nat.zero_le _) hij hj'
 rw [ltX] at h
 rw [getElem!_pos d j (by omega), getElem!_pos d i (by omega)] at h
 have h4 : ¬ d[j].addr < d[i].addr := of_decide_eq_false h
 have h5 := (List.pairwise_iff_getElem.1 hnd) i j (by simpa using hi) (by simpa using hj) hij
 simp only [List.getElem_map, Array.getElem_toList] at h5 ⊢
 omega
theorem sort_ix {P : Program} {f g : FuncId}
  (hs : ∀ (blk cap : Nat) (zs : List DXg) (w : World), Go.Sort.HoldsK encX 3 w blk 0 zs.toArray → blk < w.heap.size → zs.length < 4611686018427387904 →
   Calls P f #[.slice (some ⟨blk, 0, none⟩) zs.length cap, .func (.func g) #[] #[]] w fun e w' => e = .returned (.tuple #[]) ∧ ∃ d' n os, Go.Sort.PermIn 0 zs.length zs.toArray d' ∧ Go.Sort.SortedIn (Go.Proofs.ltOf cfX) 0 zs.length d' ∧ w' = Go.Proofs.sortWorldK encX 3 w blk 0 n d' os)
  (h0 : ∀ (p : Option Addr) (cap : Nat) (fv : Value) (w : World), Calls P f #[.slice p 0 cap, fv] w fun e w' => e = .returned (.tuple #[]) ∧ w' = w)
  {k : Nat} {E : TypeId} (l : List DXg) (hn : ndX l) (hl : l.length < 4611686018427387904) : Cio P f [.sl 0 k l.length, .fn (.func g) [] []] [.row k E 3 (l.map tXg)] (.tup []) [.row k E 3 ((srX l).map tXg)] := by
 intro e vs hH hrep hdom hav
 have ok : Ok e [.row k E 3 (l.map tXg)] e.W e.ρ e.Z e.Y := ⟨hrep, hdom, fun b h => .inl h, fun _ h => h, fun _ h => h, fun i q h => ⟨by rw [← hH]; exact h, rfl⟩, rfl, rfl, rfl, Nat.le_refl _, fun _ _ => rfl⟩
 obtain ⟨v, u, rfl⟩ : ∃ v u, vs = [v, u] := by
  have := hav.len
  cases vs with
  | nil => simp at this
  | cons a t => cases t with
   | nil => simp at this
   | cons b t => cases t with
    | nil => exact ⟨a, b, rfl⟩
    | cons c t => simp at this
 have hv := hav.at_ 0 _ _ rfl rfl
 have hu := hav.at_ 1 _ _ rfl rfl
 obtain ⟨h1, xs, h2, h3⟩ := hrep.obs 0 _ rfl
 generalize hq : AV.sl 0 k l.length = q at hv
 cases hv <;> cases hq
 rename_i hk hc hz
 generalize hq' : AV.fn (.func g) [] [] = q' at hu
 cases hu <;> cases hq'
 rename_i us vs' e1 e2 _ _
 have f1 : us.length = 0 := by first | exact e1.symm | exact e2.symm | simp_all
 have f2 : vs'.length = 0 := by first | exact e2.symm | exact e1.symm | simp_all
 obtain rfl : us = [] := List.eq_nil_of_length_eq_zero f1
 obtain rfl : vs' = [] := List.eq_nil_of_length_eq_zero f2
 rw [List.length_map] at h3
 by_cases hn0 : l = []
 ·subst hn0
  refine (h0 _ _ _ _).mono ?_
  rintro en w' ⟨rfl, rfl⟩
  exact ⟨.tuple #[], .tup [], _, e.ρ, e.Z, e.Y, rfl, ⟨rfl, rfl⟩, ok, .tup (us := []) rfl (fun j x u h => by simp at h)⟩
 ·have hpos : 0 < l.length := List.length_pos_iff.2 hn0
  rcases h3 with ⟨_, hn1, _⟩ | ⟨hcp, hown⟩
  ·omega
  have hown2 := hown
  rcases hown.2 with ⟨he, hn1⟩ | ⟨g', cap, cur, he, hbg, hg, hnc, hcm, hcs, htake⟩
  ·omega
  simp only [Value.slice.injEq] at he
  obtain ⟨ha, _, hcc⟩ := he
  rw [ha, hcc]
  have hsz : l.length * 3 ≤ cur.size := by rw [hcs]; omega
  have hxs : xs = cur.toList.take (l.length * 3) := htake.symm
  have hx : ∀ (i j : Nat) (hi : i < l.length) (hj : j < 3), cur[i * 3 + j]? = some ((encX l[i])[j]!) := by
   intro i j hi hj
   have h3i : i * 3 + j < l.length * 3 := by omega
   have hcell : ∀ x, (tXg l[i])[j]? = some x → ∃ u, cur[i * 3 + j]? = some u ∧ Frz e.W e.Z x u := by
    intro x hxj
    obtain ⟨u, q1, q2⟩ := h2.cell (i := i) (cs := tXg l[i]) (by rw [List.getElem?_map, List.getElem?_eq_getElem hi]; rfl) hxj
    rw [hxs, List.getElem?_take, if_pos h3i, Array.getElem?_toList] at q1
    exact ⟨u, q1, q2⟩
   rcases (show j = 0 ∨ j = 1 ∨ j = 2 by omega) with rfl | rfl | rfl
   ·obtain ⟨u, q1, q2⟩ := hcell (.v (.int .i64 l[i].addr)) rfl; cases q2; exact q1
   ·obtain ⟨u, q1, q2⟩ := hcell (.v (.int .u64 l[i].old)) rfl; cases q2; exact q1
   ·obtain ⟨u, q1, q2⟩ := hcell (.v (.int .u64 l[i].now)) rfl; cases q2; exact q1
  have hlt : g' < e.W.heap.size := by
   rcases Nat.lt_or_ge g' e.W.heap.size with h | h
   ·exact h
   ·rw [Array.getElem?_eq_none h] at hg; cases hg
  have hH2 : Go.Sort.HoldsK encX 3 e.W g' 0 l.toArray := by
   intro t ht
   have ht' : t < l.length * 3 := by simpa using ht
   have hi : t / 3 < l.length := by omega
   have hj : t % 3 < 3 := Nat.mod_lt _ (by omega)
   have htt : t / 3 * 3 + t % 3 = t := by omega
   constructor
   ·unfold World.cell?
    have h := hx (t / 3) (t % 3) hi hj
    rw [htt] at h
    simp only [hg, Option.isSome_none, Bool.false_eq_true, if_false, Nat.zero_add, h]
    rw [Go.Sort.get_flatK _ _ _ _ (by simpa using ht'), getElem!_pos l.toArray (t / 3) (by simpa using hi)]
    simp
   ·unfold World.frozen?
    simp [hg]
  refine (hs g' cap l e.W hH2 hlt hl).mono ?_
  rintro en w' ⟨rfl, d', n, os, hp, hsd, rfl⟩
  have hD := perm_srX hn hp hsd
  obtain rfl : d' = (srX l).toArray := by rw [← hD]
  have hsl : (srX l).length = l.length := srX_len
  clear hp hsd hD hs h0
  generalize srX l = D at *
  generalize hw : Go.Proofs.sortWorldK encX 3 e.W g' 0 n D.toArray os = w'
  have hF : (Go.Sort.flatK encX 3 D.toArray).size = l.length * 3 := by simp [hsl]
  have hgrow : ∀ b, b < e.W.heap.size → b ≠ g' → w'.heap[b]? = e.W.heap[b]? := by
   intro b hb hne
   subst hw
   unfold Go.Proofs.sortWorldK Go.Sort.grow Go.Sort.putRowK Go.Sort.putRow Go.Sort.mapBlock Go.Sort.ahead
   dsimp only
   rw [Array.getElem?_append_left (by simpa using hb), Array.getElem?_modify, if_neg (Ne.symm hne)]
  have hgg : w'.heap[g']? = some (.cells (Go.Sort.putCells id 0 (Go.Sort.flatK encX 3 D.toArray) cur) E (0, 0)) := by
   subst hw
   unfold Go.Proofs.sortWorldK Go.Sort.grow Go.Sort.putRowK Go.Sort.putRow Go.Sort.mapBlock Go.Sort.ahead
   dsimp only
   rw [Array.getElem?_append_left (by simpa using hlt), Array.getElem?_modify, if_pos rfl, hg]
   rfl
  have hsize : e.W.heap.size ≤ w'.heap.size := by subst hw; simp [Go.Proofs.sortWorldK, Go.Sort.grow, Go.Sort.putRowK, Go.Sort.putRow, Go.Sort.mapBlock, Go.Sort.ahead]
  have h3 : Same3 e.W w' := by subst hw; exact ⟨rfl, rfl, rfl⟩
  have hblk : (Ob.row k E 3 (l.map tXg)).blk e.ρ 0 = some g' := by
   show (if (e.ρ 0 k).c = 0 then none else (e.ρ 0 k).a.map (·.block)) = some g'
   rw [if_neg (by omega), ha]; rfl
  have hcells : (Go.Sort.putCells id 0 (Go.Sort.flatK encX 3 D.toArray) cur).toList.take (l.length * 3) = (Go.Sort.flatK encX 3 D.toArray).toList := by
   apply List.ext_getElem?
   intro j
   rw [List.getElem?_take, Array.getElem?_toList]
   unfold Go.Sort.putCells
   rw [Array.getElem?_mapIdx]
   by_cases hj : j < l.length * 3
   ·rw [if_pos hj, Array.getElem?_eq_getElem (by omega), Option.map_some, if_pos (by simp; omega), Nat.sub_zero, getElem!_pos (Go.Sort.flatK encX 3 D.toArray) j (by omega), Array.getElem?_toList, Array.getElem?_eq_getElem (by omega)]
    rfl
   ·rw [if_neg hj, List.getElem?_eq_none (by simp; omega)]
  have hel : Elems (Frz w' e.Z) 3 (D.map tXg) (Go.Sort.flatK encX 3 D.toArray).toList := by
   refine ⟨by simp, fun cs hcs => by obtain ⟨x, _, rfl⟩ := List.mem_map.1 hcs; rfl, fun i cs j x u hi hj hu => ?_⟩
   rw [List.getElem?_map] at hi
   cases hs' : D[i]? with
   | none => rw [hs'] at hi; cases hi
   | some a =>
    rw [hs'] at hi
    cases hi
    have hiD := (List.getElem?_eq_some_iff.1 hs').1
    have hj3 : j < 3 := by
     rcases Nat.lt_or_ge j 3 with h | h
     ·exact h
     ·rw [List.getElem?_eq_none (by exact h)] at hj; cases hj
    rw [Array.getElem?_toList, Array.getElem?_eq_getElem (by rw [hF, ← hsl]; omega), ← getElem!_pos, Go.Sort.get_flatK _ _ _ _ (by simp; omega)] at hu
    have e3 : (i * 3 + j) / 3 = i := by omega
    have e4 : (i * 3 + j) % 3 = j := by omega
    rw [e3, e4, getElem!_pos D.toArray i (by simpa using hiD)] at hu
    have e5 : D.toArray[i]'(by simpa using hiD) = a := by simpa using (List.getElem?_eq_some_iff.1 hs').2
    rw [e5] at hu
    rcases (show j = 0 ∨ j = 1 ∨ j = 2 by omega) with rfl | rfl | rfl
    ·cases hj; cases hu; exact .v rfl
    ·cases hj; cases hu; exact .v rfl
    ·cases hj; cases hu; exact .v rfl
  have ok' := ok.turn (i := 0) (o := .row k E 3 (l.map tXg)) (o' := .row k E 3 (D.map tXg)) (ρ' := e.ρ) (w' := w') rfl (Nat.le_refl _) (fun _ _ _ => rfl) h3 hsize
   (fun b hb hne => hgrow b hb (fun he => hne (by rw [hblk, he]))) ⟨h1, _, hel, by
    rw [List.length_map, hsl, ha, hcc]
    refine .inr ⟨by omega, ⟨by simp [hsl], .inr ⟨g', cap, _, rfl, hbg, hgg, hnc, hcm, ?_, ?_⟩⟩⟩
    ·simp [Go.Sort.putCells, hcs]
    ·exact hcells⟩ (fun b hb => .inl hb)
  exact ⟨.tuple #[], .tup [], _, e.ρ, e.Z, e.Y, rfl, ⟨rfl, rfl⟩, ok', .tup (us := []) rfl (fun j x u h => by simp at h)⟩
end
section
def sortF_ren : Go.Shelf.Ren := ⟨fun | 6 => 56 | 15 => 77 | 14 => 76 | 28 => 95 | 29 => 96 | 20 => 87 | 21 => 88 | 22 => 89 | 23 => 90 | 24 => 91 | 25 => 92 | 26 => 93 | 27 => 94 | 46 => 111 | 47 => 112 | 48 => 113 | 49 => 114 | 50 => 115 | 57 => 122 | n => n, fun | 22 => 49 | 24 => 82 | 25 => 103 | 3 => 3 | 39 => 133 | 0 => 0 | 53 => 147 | 55 => 80 | 4 => 4 | 46 => 141 | 45 => 140 | 50 => 99 | 5 => 5 | 9 => 9 | 66 => 157 | 70 => 161 | 76 => 166 | 77 => 167 | n => n, fun | n => n⟩
theorem sortF_lay : Go.Proofs.SlLaysF0.n6 Try.prog sortF_ren := {
 mixed := by kernel_rfl
 f6 := ⟨Try.f56.name, by decide, Try.func56.trans (congrArg some (by kernel_rfl))⟩
 f14 := ⟨Try.f76.name, by decide, Try.func76.trans (congrArg some (by kernel_rfl))⟩
 f15 := Try.func77.trans (congrArg some (by kernel_rfl))
 f20 := ⟨Try.f87.name, by decide, Try.func87.trans (congrArg some (by kernel_rfl))⟩
 f21 := ⟨Try.f88.name, by decide, Try.func88.trans (congrArg some (by kernel_rfl))⟩
 f22 := ⟨Try.f89.name, by decide, Try.func89.trans (congrArg some (by kernel_rfl))⟩
 f23 := ⟨Try.f90.name, by decide, Try.func90.trans (congrArg some (by kernel_rfl))⟩
 f24 := ⟨Try.f91.name, by decide, Try.func91.trans (congrArg some (by kernel_rfl))⟩
 f25 := ⟨Try.f92.name, by decide, Try.func92.trans (congrArg some (by kernel_rfl))⟩
 f26 := ⟨Try.f93.name, by decide, Try.func93.trans (congrArg some (by kernel_rfl))⟩
 f27 := ⟨Try.f94.name, by decide, Try.func94.trans (congrArg some (by kernel_rfl))⟩
 f28 := Try.func95.trans (congrArg some (by kernel_rfl))
 f29 := Try.func96.trans (congrArg some (by kernel_rfl))
 f46 := ⟨Try.f111.name, by decide, Try.func111.trans (congrArg some (by kernel_rfl))⟩
 f47 := Try.func112.trans (congrArg some (by kernel_rfl))
 f48 := Try.func113.trans (congrArg some (by kernel_rfl))
 f49 := ⟨Try.f114.name, by decide, Try.func114.trans (congrArg some (by kernel_rfl))⟩
 f50 := ⟨Try.f115.name, by decide, Try.func115.trans (congrArg some (by kernel_rfl))⟩
 f57 := ⟨Try.f122.name, by decide, Try.func122.trans (congrArg some (by kernel_rfl))⟩
 t0 := Try.underlying0
 a0 := Try.isAgg0
 z0 := Try.sizeOf0
 v0 := Try.zeroValue0
 t3 := Try.underlying3
 a3 := Try.isAgg3
 z3 := Try.sizeOf3
 v3 := Try.zeroValue3
 t4 := Try.underlying4
 a4 := Try.isAgg4
 z4 := Try.sizeOf4
 v4 := Try.zeroValue4
 t5 := Try.underlying5
 a5 := Try.isAgg5
 z5 := Try.sizeOf5
 v5 := Try.zeroValue5
 t9 := Try.underlying9
 a9 := Try.isAgg9
 z9 := Try.sizeOf9
 v9 := Try.zeroValue9
 t22 := Try.underlying49
 a22 := Try.isAgg49
 z22 := Try.sizeOf49
 v22 := Try.zeroValue49
 t25 := Try.underlying103
 a25 := Try.isAgg103
 z25 := Try.sizeOf103
 v25 := Try.zeroValue103
 t39 := Try.underlying133
 a39 := Try.isAgg133
 z39 := Try.sizeOf133
 v39 := Try.zeroValue133
 t45 := Try.underlying140
 a45 := Try.isAgg140
 z45 := Try.sizeOf140
 v45 := Try.zeroValue140
 t46 := Try.underlying141
 a46 := Try.isAgg141
 z46 := Try.sizeOf141
 v46 := Try.zeroValue141
 t50 := Try.underlying99
 a50 := Try.isAgg99
 z50 := Try.sizeOf99
 v50 := Try.zeroValue99
 t53 := Try.underlying147
 a53 := Try.isAgg147
 z53 := Try.sizeOf147
 v53 := Try.zeroValue147
 t55 := Try.underlying80
 a55 := Try.isAgg80
 z55 := Try.sizeOf80
 v55 := Try.zeroValue80
 t66 := Try.underlying157
 a66 := Try.isAgg157
 z66 := Try.sizeOf157
 v66 := Try.zeroValue157
 t70 := Try.underlying161
 a70 := Try.isAgg161
 z70 := Try.sizeOf161
 v70 := Try.zeroValue161
 t76 := Try.underlying166
 a76 := Try.isAgg166
 z76 := Try.sizeOf166
 v76 := Try.zeroValue166
 t77 := Try.underlying167
 a77 := Try.isAgg167
 z77 := Try.sizeOf167
 v77 := Try.zeroValue167 }
theorem cmpX_run (x y : DXg) (W : World) : Calls Try.prog 57 #[.agg (encX x).toArray, .agg (encX y).toArray] W fun e w' => e = .returned (.int .i64 (cfX x y)) ∧ ∃ q os', w' = Go.Sort.grow (W.drewN q) os' := by
 unfold cfX
 obtain ⟨xa, xo, xn⟩ := x
 obtain ⟨ya, yo, yn⟩ := y
 dsimp only [encX]
 go_enter Try.func57, Try.ntmps57
 by_cases h : xa < ya
 ·go_wp2
  go_ret
  exact ⟨rfl, 0, _, by rw [Go.Sort.alloc_eq_grow, Go.Sort.alloc_eq_grow, Go.Sort.grow_grow]; rfl⟩
 ·go_wp2
  go_ret
  exact ⟨rfl, 0, _, by rw [Go.Sort.alloc_eq_grow, Go.Sort.alloc_eq_grow, Go.Sort.grow_grow]; rfl⟩
theorem sortX_c {k : Nat} {E : TypeId} (l : List DXg) (hn : ndX l) (hl : l.length < 4611686018427387904) : Cio Try.prog 56 [.sl 0 k l.length, .fn (.func 57) [] []] [.row k E 3 (l.map tXg)] (.tup []) [.row k E 3 ((srX l).map tXg)] := by
 have eg : ∀ args w, (callFunc 57 args).run Try.prog w = .ok (.enter 57 args) w := enters_of Try.func57 (by kernel_rfl) rfl
 refine sort_ix (fun blk cap zs w h1 h2 h3 => ?_) (fun p cap fv w => AnyF.slices_SortFunc_none sortF_lay p cap fv w) l hn hl
 have h := AnyQ.slices_SortFunc sortF_lay 3 Try.isAgg82 Try.sizeOf82 encX (fun _ => rfl) (fun x v hv => by simp [encX] at hv; rcases hv with rfl | rfl | rfl <;> rfl) cfX swoX 57 #[] blk 0 cap zs.toArray w eg (fun _ _ _ _ x y => cmpX_run x y _) h1 h2 (by simpa using h3)
 exact h
end
section
attribute [local irreducible] AL AW RG Fin C Cd Cio thenQ blockQ retQ
set_option maxRecDepth 100000
def mpX (C : List DXg) : List (Int × Int) := C.mapIdx fun i x => (x.addr, (i : Int))
theorem mpX_app (C : List DXg) (x : DXg) : mpX (C ++ [x]) = mpX C ++ [(x.addr, (C.length : Int))] := by
 unfold mpX; rw [List.mapIdx_append]; simp
theorem mpX_set {C : List DXg} {i : Nat} {y z : DXg} (h : C[i]? = some y) (hz : z.addr = y.addr) : mpX (C.set i z) = mpX C := by
 unfold mpX
 apply List.ext_getElem?
 intro j
 rw [List.getElem?_mapIdx, List.getElem?_mapIdx, List.getElem?_set]
 split
 ·rename_i e
  subst e
  rw [if_pos (List.getElem?_eq_some_iff.1 h).1, h]
  simp [hz]
 ·rfl
theorem lookE_at : ∀ (es : List (Int × Int)) (k v : Int) (i : Nat), (∀ j, j < i → ∀ p, es[j]? = some p → p.1 ≠ k) → es[i]? = some (k, v) → lookE es k = some v
 | [], k, v, i, _, h => by simp at h
 | p :: es, k, v, 0, _, h => by simp at h; subst h; unfold lookE; simp
 | p :: es, k, v, i + 1, h0, h => by
  have h1 := h0 0 (by omega) p rfl
  have := lookE_at es k v i (fun j hj q hq => h0 (j + 1) (by omega) q (by simpa using hq)) (by simpa using h)
  unfold lookE at *
  rw [List.find?_cons, decide_eq_false h1]; exact this
theorem lookE_no : ∀ (es : List (Int × Int)) (k : Int), (∀ p ∈ es, p.1 ≠ k) → lookE es k = none
 | [], _, _ => rfl
 | p :: es, k, h => by
  have := lookE_no es k fun q hq => h q (List.mem_cons_of_mem _ hq)
  unfold lookE at *
  rw [List.find?_cons, decide_eq_false (h p List.mem_cons_self)]; exact this
theorem look_yes {C : List DXg} {k : Int} (h : fiX C k < C.length) : lookE (mpX C) k = some (fiX C k : Int) := by
 obtain ⟨y, hy, hk⟩ := fiX_lt h
 refine lookE_at _ k _ (fiX C k) (fun j hj p hp => ?_) ?_
 ·unfold mpX at hp
  rw [List.getElem?_mapIdx] at hp
  cases hc : C[j]? with
  | none => rw [hc] at hp; cases hp
  | some z => rw [hc] at hp; cases hp; exact fiX_not hj hc
 ·unfold mpX
  rw [List.getElem?_mapIdx, hy]; simp [hk]
theorem look_no {C : List DXg} {k : Int} (h : ¬ fiX C k < C.length) : lookE (mpX C) k = none := by
 refine lookE_no _ k fun p hp => ?_
 obtain ⟨i, hi⟩ := List.getElem?_of_mem hp
 unfold mpX at hi
 rw [List.getElem?_mapIdx] at hi
 cases hc : C[i]? with
 | none => rw [hc] at hi; cases hi
 | some z =>
  rw [hc] at hi; cases hi
  have := (List.getElem?_eq_some_iff.1 hc).1
  exact fiX_not (by have := fiX_le C k; omega) hc
theorem kpX_nd {C : List DXg} (h : ndX C) : ndX (kpX C) := h.sublist (List.filter_sublist.map _)
theorem srX_kp (C : List DXg) : srX (kpX C) = inR C C.length := by unfold inR; rw [List.take_length]
theorem dThen_c (a b : List DXg) (ha : a.length ≤ 1048576) (hb : b.length ≤ 1048576) : Cd Try.prog 21 [.t (.lst (a.map tXg)), .t (.lst (b.map tXg))] (thA (a ++ b)) [] := by
 have h1 : (a.map tXg).length = a.length := List.length_map _
 have h2 : (b.map tXg).length = b.length := List.length_map _
 have cC := concatX_c a b ha hb
 refine Cd.enter' Try.func21 rfl Try.ntmps21 rfl ?_
 repeat' (first | ((with_reducible refine kAL ?_); (first | (refine kL 4111 rfl ?_; first | refine A_lit rfl rfl 128 2 _ rfl ud128 inf49 (.cons rfl (.cons rfl .nil)) (els := [[_], [_]]) rfl (by first | exact qN) rfl (Nat.ne_of_beq_eq_false rfl) (Nat.le_of_ble_eq_true rfl) (Nat.le_of_ble_eq_true rfl) (.push qL qN) ?_) | (refine kL 1706 rfl ?_; first | refine uK (cC) ?_) | (refine kL 12 rfl ?_; first | refine A_append_nlsub rfl rfl _ _ 49 rfl ud49 inf82 rfl rfl rfl rfl (by (try simp only [List.length_map, List.length_append, List.length_cons, List.length_nil]); omega) qB qB List.map_drop.symm (.push qL qN) ?_) | (refine kL 1583 rfl ?_; first | refine A_lit rfl rfl 49 1 _ rfl ud49 inf82 (.cons rfl .nil) (els := [[_, _, _]]) rfl (by first | exact qN) rfl (Nat.ne_of_beq_eq_false rfl) (Nat.le_of_ble_eq_true rfl) (Nat.le_of_ble_eq_true rfl) (.push qL qN) ?_) | refine uA ?_)) | refine uR ?_ | refine uC ?_ | refine kcp rfl (fun hc => ?_) (fun hc => ?_) | refine kcn rfl (fun hc => ?_) (fun hc => ?_) | refine kcb rfl (fun hc => ?_) (fun hc => ?_) | refine kcc rfl (fun hc => ?_) (fun hc => ?_) | refine AW.drawU (id := 10) mixed 0 qR ?_ | fail)
 all_goals first | (exfalso; omega) | skip
 have hl : (a ++ b).length = a.length + b.length := List.length_append
 have hxl : (a ++ b).length ≤ 2097152 := by omega
 clear cC hl
 generalize a ++ b = xs at *
 have h3 : (xs.map tXg).length = xs.length := List.length_map _
 refine AW.wk (Wk.own 6 rfl 82 3 (.push rfl rfl)) ?_
 refine AW.loopP (fun (q : Nat) => q ≤ xs.length ∧ thE xs q = 0) (fun (q : Nat) => (pu (pu (pu (pu (pu (fun _ => .any) 6 (.sl 3 (thC xs q).length (thC xs q).length)) 7 (.mv 0)) 16 (.sl 2 0 xs.length)) 17 (i64 xs.length)) 18 (i64 q))) (fun (q : Nat) => [.mp (mpX (thC xs q)), .row 0 49 1 [[.lst (a.map tXg)], [.lst (b.map tXg)]], .row 0 82 3 (xs.map tXg), .row (thC xs q).length 82 3 ((thC xs q).map tXg)]) (fun (q : Nat) => xs.length - q) (0) ?_ ?_ ?_
 ·exact ⟨Nat.zero_le _, rfl⟩
 ·rw [show thC xs 0 = [] from rfl]
  exact Wk.cq 4
 ·intro q ⟨hq, h0⟩
  have hC := thC_len xs q
  have hnd := thC_nd xs q
  by_cases hq2 : q < xs.length
  ·obtain ⟨x, hx⟩ : ∃ x, xs[q]? = some x := ⟨_, List.getElem?_eq_getElem hq2⟩
   have hs := fun c => thE_stop (c := c) hx h0
   have hn := thE_next hx h0
   have hc := thC_next hx
   unfold thK at hs hn
   unfold stX at hc
   generalize hCC : thC xs q = C at *
   obtain ⟨xa, xo, xn⟩ := x
   dsimp only at hs hn hc
   have hCl : (C.map tXg).length = C.length := List.length_map _
   by_cases hf : fiX C xa < C.length
   ·have hlk := look_yes hf
    obtain ⟨y, hy, hk⟩ := fiX_lt hf
    rw [if_pos hf, List.getD_eq_getElem?_getD, hy, Option.getD_some] at hs hn hc
    generalize fiX C xa = k at *
    obtain ⟨ya, yo, yn⟩ := y
    dsimp only at hs hn hc hk
    by_cases hw : yn = xo
    ·rw [if_pos hw] at hn
     have hm := mpX_set (z := ⟨ya, yo, xn⟩) hy rfl
     clear hs
     repeat' (first | ((with_reducible refine kAL ?_); (first | (refine kL 4111 rfl ?_; first | refine A_lit rfl rfl 128 2 _ rfl ud128 inf49 (.cons rfl (.cons rfl .nil)) (els := [[_], [_]]) rfl (by first | exact (rfl : _ = List.map tXg [⟨ya, yo, xn⟩]) | exact qN) rfl (Nat.ne_of_beq_eq_false rfl) (Nat.le_of_ble_eq_true rfl) (Nat.le_of_ble_eq_true rfl) (.push qL qN) ?_) | (refine kL 12 rfl ?_; first | refine A_append rfl rfl _ _ 49 rfl ud49 inf82 rfl rfl rfl (by first | exact Nat.le_refl _ | (simp <;> fail) | (simp; omega)) (by first | exact .nl | exact .all rfl (by first | rfl | (simp <;> fail) | (simp; omega)) | exact .lst (by first | exact each_map (fun _ => rfl) | assumption | (simp <;> fail) | fail) | exact .ln (by first | exact each_map (fun _ => rfl) | assumption | (simp <;> fail) | fail) | exact .sl rfl (by first | exact Nat.le_refl _ | (simp <;> fail) | (simp; omega)) | exact .sub rfl (by first | exact Nat.le_refl _ | (simp <;> fail) | (simp; omega))) qB qB (by first | exact app_map (by first | rfl | omega | (simp <;> fail) | fail) | exact app_one (f := tXg) (x := ⟨ya, yo, xn⟩) (by first | rfl | omega | (simp <;> fail) | fail) | exact qN) qN qS ?_ | refine A_append_nl rfl rfl _ _ 49 rfl ud49 inf82 rfl rfl (by first | exact .nl | exact .all rfl (by first | rfl | (simp <;> fail) | (simp; omega)) | exact .lst (by first | exact each_map (fun _ => rfl) | assumption | (simp <;> fail) | fail) | exact .ln (by first | exact each_map (fun _ => rfl) | assumption | (simp <;> fail) | fail) | exact .sl rfl (by first | exact Nat.le_refl _ | (simp <;> fail) | (simp; omega)) | exact .sub rfl (by first | exact Nat.le_refl _ | (simp <;> fail) | (simp; omega))) qB qB (by first | exact (rfl : _ = List.map tXg [⟨ya, yo, xn⟩]) | exact qN) (.push qL qN) qS ?_ | refine A_append_nlsub rfl rfl _ _ 49 rfl ud49 inf82 rfl rfl rfl rfl (by (try simp only [List.length_map, List.length_append, List.length_cons, List.length_nil]); omega) qB qB List.map_drop.symm (.push qL qN) ?_) | (refine kL 2627 rfl ?_; first | refine A_store_rp rfl rfl 82 _ _ rfl inf82 (by decide) rfl rfl (by first | exact map_get (by assumption) | assumption | exact map_get hy | exact map_get hx) rfl rfl rfl (Nat.le_of_ble_eq_true rfl) (by first | exact map_set (f := tXg) (x := ⟨ya, yo, xn⟩) | exact qN) qN ?_) | (refine kL 1583 rfl ?_; first | refine A_lit rfl rfl 49 1 _ rfl ud49 inf82 (.cons rfl .nil) (els := [[_, _, _]]) rfl (by first | exact (rfl : _ = List.map tXg [⟨ya, yo, xn⟩]) | exact qN) rfl (Nat.ne_of_beq_eq_false rfl) (Nat.le_of_ble_eq_true rfl) (Nat.le_of_ble_eq_true rfl) (.push qL qN) ?_) | (refine kL 2563 rfl ?_; first | refine A_store_rp rfl rfl 80 _ _ rfl inf80 (by decide) rfl rfl (by first | exact map_get (by assumption) | assumption | exact map_get hy | exact map_get hx) rfl rfl rfl (Nat.le_of_ble_eq_true rfl) (by first | exact map_set (f := tXg) (x := ⟨ya, yo, xn⟩) | exact qN) qN ?_) | refine uA ?_)) | refine uR ?_ | refine uC ?_ | refine kcp rfl (fun hc => ?_) (fun hc => ?_) | refine kcn rfl (fun hc => ?_) (fun hc => ?_) | refine kcb rfl (fun hc => ?_) (fun hc => ?_) | refine kcc rfl (fun hc => ?_) (fun hc => ?_) | refine AW.drawU (id := 10) mixed 0 qR ?_ | fail)
     all_goals first | (exfalso; omega) | skip
     refine ⟨q + 1, ⟨by omega, hn⟩, by omega, ?_⟩
     rw [hc, List.length_set, hm]
     exact Wk.cq 4
    ·have hE := hs 3 (by rw [if_neg hw]) (by decide)
     unfold thA
     rw [hE, if_neg (by decide)]
     clear hs hn hc
     repeat' (first | ((with_reducible refine kAL ?_); (first | (refine kL 4111 rfl ?_; first | refine A_lit rfl rfl 128 2 _ rfl ud128 inf49 (.cons rfl (.cons rfl .nil)) (els := [[_], [_]]) rfl (by first | exact qN) rfl (Nat.ne_of_beq_eq_false rfl) (Nat.le_of_ble_eq_true rfl) (Nat.le_of_ble_eq_true rfl) (.push qL qN) ?_) | (refine kL 12 rfl ?_; first | refine A_append_nlsub rfl rfl _ _ 49 rfl ud49 inf82 rfl rfl rfl rfl (by (try simp only [List.length_map, List.length_append, List.length_cons, List.length_nil]); omega) qB qB List.map_drop.symm (.push qL qN) ?_) | (refine kL 1583 rfl ?_; first | refine A_lit rfl rfl 49 1 _ rfl ud49 inf82 (.cons rfl .nil) (els := [[_, _, _]]) rfl (by first | exact qN) rfl (Nat.ne_of_beq_eq_false rfl) (Nat.le_of_ble_eq_true rfl) (Nat.le_of_ble_eq_true rfl) (.push qL qN) ?_) | refine uA ?_)) | refine uR ?_ | refine uC ?_ | refine kcp rfl (fun hc => ?_) (fun hc => ?_) | refine kcn rfl (fun hc => ?_) (fun hc => ?_) | refine kcb rfl (fun hc => ?_) (fun hc => ?_) | refine kcc rfl (fun hc => ?_) (fun hc => ?_) | refine AW.drawU (id := 10) mixed 0 qR ?_ | fail)
     all_goals first | (exfalso; omega) | ((first | exact Fin.q Try.results21 (.cons (.tmp rfl) (.cons (.tmp rfl) .nil)) [] | refine Fin.q Try.results21 (.cons (.tmp rfl) (.cons (.tmp rfl) .nil)) [] (hr := (.tupL (.cons (.t ?_) (.cons (.t ?_) .nil)))) | refine Fin.mkv (rs := _) Try.results21 (.cons (.tmp rfl) (.cons (.tmp rfl) .nil)) [] (by decide) rfl ?_ ?_ ?_ <;> repeat' (skip; first | exact .nil | refine .cons rfl ?_ ?_ | refine .cons ?_ ?_ | refine .row ?_ | refine .rset ?_ | refine .box ?_ | exact .gone | refine .aggL ?_ | refine .tupL ?_ | refine .old rfl ?_ | refine .new rfl rfl rfl ?_ | exact .nl | exact .optr rfl | exact .nptr rfl rfl rfl | refine .t ?_ | exact .any _ | rfl)))
   ·have hlk := look_no hf
    rw [if_neg hf] at hn hc
    clear hs
    repeat' (first | ((with_reducible refine kAL ?_); (first | (refine kL 4111 rfl ?_; first | refine A_lit rfl rfl 128 2 _ rfl ud128 inf49 (.cons rfl (.cons rfl .nil)) (els := [[_], [_]]) rfl (by first | exact (rfl : _ = List.map tXg [⟨xa, xo, xn⟩]) | exact qN) rfl (Nat.ne_of_beq_eq_false rfl) (Nat.le_of_ble_eq_true rfl) (Nat.le_of_ble_eq_true rfl) (.push qL qN) ?_) | (refine kL 12 rfl ?_; first | refine A_append rfl rfl _ _ 49 rfl ud49 inf82 rfl rfl rfl (by first | exact Nat.le_refl _ | (simp <;> fail) | (simp; omega)) (by first | exact .nl | exact .all rfl (by first | rfl | (simp <;> fail) | (simp; omega)) | exact .lst (by first | exact each_map (fun _ => rfl) | assumption | (simp <;> fail) | fail) | exact .ln (by first | exact each_map (fun _ => rfl) | assumption | (simp <;> fail) | fail) | exact .sl rfl (by first | exact Nat.le_refl _ | (simp <;> fail) | (simp; omega)) | exact .sub rfl (by first | exact Nat.le_refl _ | (simp <;> fail) | (simp; omega))) qB qB (by first | exact app_map (by first | rfl | omega | (simp <;> fail) | fail) | exact app_one (f := tXg) (x := ⟨xa, xo, xn⟩) (by first | rfl | omega | (simp <;> fail) | fail) | exact qN) qN qS ?_ | refine A_append_nl rfl rfl _ _ 49 rfl ud49 inf82 rfl rfl (by first | exact .nl | exact .all rfl (by first | rfl | (simp <;> fail) | (simp; omega)) | exact .lst (by first | exact each_map (fun _ => rfl) | assumption | (simp <;> fail) | fail) | exact .ln (by first | exact each_map (fun _ => rfl) | assumption | (simp <;> fail) | fail) | exact .sl rfl (by first | exact Nat.le_refl _ | (simp <;> fail) | (simp; omega)) | exact .sub rfl (by first | exact Nat.le_refl _ | (simp <;> fail) | (simp; omega))) qB qB (by first | exact (rfl : _ = List.map tXg [⟨xa, xo, xn⟩]) | exact qN) (.push qL qN) qS ?_ | refine A_append_nlsub rfl rfl _ _ 49 rfl ud49 inf82 rfl rfl rfl rfl (by (try simp only [List.length_map, List.length_append, List.length_cons, List.length_nil]); omega) qB qB List.map_drop.symm (.push qL qN) ?_) | (refine kL 2627 rfl ?_; first | refine A_store_rp rfl rfl 82 _ _ rfl inf82 (by decide) rfl rfl (by first | exact map_get (by assumption) | assumption | exact map_get hx) rfl rfl rfl (Nat.le_of_ble_eq_true rfl) (by first | exact map_set (f := tXg) (x := ⟨xa, xo, xn⟩) | exact qN) qN ?_) | (refine kL 1583 rfl ?_; first | refine A_lit rfl rfl 49 1 _ rfl ud49 inf82 (.cons rfl .nil) (els := [[_, _, _]]) rfl (by first | exact (rfl : _ = List.map tXg [⟨xa, xo, xn⟩]) | exact qN) rfl (Nat.ne_of_beq_eq_false rfl) (Nat.le_of_ble_eq_true rfl) (Nat.le_of_ble_eq_true rfl) (.push qL qN) ?_) | (refine kL 2563 rfl ?_; first | refine A_store_rp rfl rfl 80 _ _ rfl inf80 (by decide) rfl rfl (by first | exact map_get (by assumption) | assumption | exact map_get hx) rfl rfl rfl (Nat.le_of_ble_eq_true rfl) (by first | exact map_set (f := tXg) (x := ⟨xa, xo, xn⟩) | exact qN) qN ?_) | refine uA ?_)) | refine uR ?_ | refine uC ?_ | refine kcp rfl (fun hc => ?_) (fun hc => ?_) | refine kcn rfl (fun hc => ?_) (fun hc => ?_) | refine kcb rfl (fun hc => ?_) (fun hc => ?_) | refine kcc rfl (fun hc => ?_) (fun hc => ?_) | refine AW.drawU (id := 10) mixed 0 qR ?_ | fail)
    all_goals first | (exfalso; omega) | skip
    refine ⟨q + 1, ⟨by omega, hn⟩, by omega, ?_⟩
    rw [hc, List.length_append, mpX_app]
    exact Wk.cq 4
  ·have e : q = xs.length := by omega
   subst e
   unfold thA
   rw [h0, if_pos rfl, ← srX_kp]
   generalize thC xs xs.length = C at *
   have hCl : (C.map tXg).length = C.length := List.length_map _
   have cv : ∀ x : DXg, CV Try.prog (.fn (.func 55) [] []) [.agg ((tXg x).map .t)] (.t (.v (.bool (dxP x)))) [] := fun x => ⟨_, _, [], [], rfl, Try.func55, by kernel_rfl, by kernel_rfl, fun _ => .nil, fun _ => .nil, then1_c x⟩
   have cD := delX_c 55 cv (k := C.length) C (by omega)
   have hK := kpX_len C
   have cS := sortX_c (k := C.length) (E := 82) (kpX C) (kpX_nd hnd) (by omega)
   repeat' (first | ((with_reducible refine kAL ?_); (first | (refine kL 4111 rfl ?_; first | refine A_lit rfl rfl 128 2 _ rfl ud128 inf49 (.cons rfl (.cons rfl .nil)) (els := [[_], [_]]) rfl (by first | exact qN) rfl (Nat.ne_of_beq_eq_false rfl) (Nat.le_of_ble_eq_true rfl) (Nat.le_of_ble_eq_true rfl) (.push qL qN) ?_) | (refine kL 12 rfl ?_; first | refine A_append_nlsub rfl rfl _ _ 49 rfl ud49 inf82 rfl rfl rfl rfl (by (try simp only [List.length_map, List.length_append, List.length_cons, List.length_nil]); omega) qB qB List.map_drop.symm (.push qL qN) ?_) | (refine kL 1583 rfl ?_; first | refine A_lit rfl rfl 49 1 _ rfl ud49 inf82 (.cons rfl .nil) (els := [[_, _, _]]) rfl (by first | exact qN) rfl (Nat.ne_of_beq_eq_false rfl) (Nat.le_of_ble_eq_true rfl) (Nat.le_of_ble_eq_true rfl) (.push qL qN) ?_) | (refine kL 1738 rfl ?_; first | refine uI [3] (cD) ?_) | (refine kL 1802 rfl ?_; first | refine uI [3] (cS) ?_) | refine uA ?_)) | refine uR ?_ | refine uC ?_ | refine kcp rfl (fun hc => ?_) (fun hc => ?_) | refine kcn rfl (fun hc => ?_) (fun hc => ?_) | refine kcb rfl (fun hc => ?_) (fun hc => ?_) | refine kcc rfl (fun hc => ?_) (fun hc => ?_) | refine AW.drawU (id := 10) mixed 0 qR ?_ | fail)
   all_goals first | (exfalso; omega) | skip
   refine Fin.wk (Wk.freeze 3 rfl 4 rfl (.all (by rw [List.length_map, srX_len])) rfl) ?_
   (first | exact Fin.q Try.results21 (.cons (.tmp rfl) (.cons (.tmp rfl) .nil)) [] | refine Fin.q Try.results21 (.cons (.tmp rfl) (.cons (.tmp rfl) .nil)) [] (hr := (.tupL (.cons (.t ?_) (.cons (.t ?_) .nil)))) | refine Fin.mkv (rs := _) Try.results21 (.cons (.tmp rfl) (.cons (.tmp rfl) .nil)) [] (by decide) rfl ?_ ?_ ?_ <;> repeat' (skip; first | exact .nil | refine .cons rfl ?_ ?_ | refine .cons ?_ ?_ | refine .row ?_ | refine .rset ?_ | refine .box ?_ | exact .gone | refine .aggL ?_ | refine .tupL ?_ | refine .old rfl ?_ | refine .new rfl rfl rfl ?_ | exact .nl | exact .optr rfl | exact .nptr rfl rfl rfl | refine .t ?_ | exact .any _ | rfl))
end
section
end
section
attribute [local irreducible] AL AW RG Fin C Cd Cio thenQ blockQ retQ
set_option maxRecDepth 100000
end
end Go.Proofs.Ytnibnbcmnaflmaa
