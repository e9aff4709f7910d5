/- Joined: XTPack, XTCode. -/
import Derived.Test.YtnfbggpkiekpdaaKR15h
namespace Go.Proofs.Ytnfbggpkiekpdaa
open Go.RowKit
set_option linter.unusedVariables false
set_option linter.unusedSimpArgs false
set_option linter.unnecessarySimpa false
set_option maxRecDepth 100000
set_option maxHeartbeats 64000000
section
attribute [local irreducible] AL AW RG Fin C Cd Cio thenQ blockQ retQ
set_option maxRecDepth 100000
def fitI (n M : Int) : Bool := decide (0 ≤ n ∧ n < M)
theorem pfits_c (n b : Int) (M : Int) (hM : IntKind.i64.wrap (1 * 2 ^ (min b.toNat 64)) = M) (hb : 0 ≤ b) : Cd Try.prog 107 [i64 n, i64 b] (bo (fitI n M)) [] := by
 unfold fitI
 by_cases h1 : 0 ≤ n
 all_goals
  refine Cd.enter' Try.func107 rfl Try.ntmps107 rfl ?_
  repeat' (first | ((with_reducible refine kAL ?_); (first | (refine kL 105 rfl ?_; first | refine A_shl rfl rfl 3 3 _ _ rfl rfl rfl (by omega) rfl ?_) | refine uA ?_)) | refine uC ?_ | fail)
  all_goals first | (exfalso; omega) | (refine Fin.q Try.results107 (.cons (.tmp rfl) .nil) [] (hr := (.t ?_)))
  all_goals first | (simp [h1]; done) | (rw [show IntKind.i64.bits = 64 from rfl, hM]; simp [h1]; done) | skip
def goodR (r : Rst) : Bool := fitI r.value 4294967296 && fitI r.code 256 && fitI r.cas 16 && decide (0 ≤ r.seq) && decide (r.seq ≤ 1048575)
theorem goodR_iff {r : Rst} : goodR r = true ↔ (0 ≤ r.value ∧ r.value < 4294967296) ∧ (0 ≤ r.code ∧ r.code < 256) ∧ (0 ≤ r.cas ∧ r.cas < 16) ∧ 0 ≤ r.seq ∧ r.seq ≤ 1048575 := by unfold goodR fitI; simp; omega
def wordR (r : Rst) : Int := if goodR r then r.seq * 17592186044416 + r.cas * 1099511627776 + r.code * 4294967296 + r.value else 0
def readR (w : Int) : Rst := ⟨w / 17592186044416, w / 1099511627776 % 16, w / 4294967296 % 256, w % 4294967296⟩
theorem pgood_c (r : Rst) : Cd Try.prog 137 [aR r] (bo (goodR r)) [] := by
 have c1 := pfits_c r.value 32 4294967296 (by decide) (by decide)
 have c2 := pfits_c r.code 8 256 (by decide) (by decide)
 have c3 := pfits_c r.cas 4 16 (by decide) (by decide)
 unfold goodR
 generalize fitI r.value 4294967296 = b1 at *
 generalize fitI r.code 256 = b2 at *
 generalize fitI r.cas 16 = b3 at *
 by_cases e1 : 0 ≤ r.seq <;> by_cases e2 : r.seq ≤ 1048575
 all_goals
  cases b1 <;> cases b2 <;> cases b3
  all_goals
   refine Cd.enter' Try.func137 rfl Try.ntmps137 rfl ?_
   repeat' (first | ((with_reducible refine kAL ?_); (first | (refine kL 3434 rfl ?_; first | refine uK (c1) ?_ | refine uK (c2) ?_ | refine uK (c3) ?_) | refine uA ?_)) | refine uC ?_ | fail)
   all_goals first | (exfalso; omega) | ((first | exact Fin.q Try.results137 (.cons (.tmp rfl) .nil) [] | refine Fin.q Try.results137 (.cons (.tmp rfl) .nil) [] (hr := (.t ?_))))
   all_goals first | (simp [e1, e2]; done) | skip
theorem presult_c (r : Rst) : Cd Try.prog 129 [aR r] (u64 (wordR r)) [] := by
 have c1 := pgood_c r
 unfold wordR
 cases hg : goodR r
 ·rw [hg] at c1
  refine Cd.enter' Try.func129 rfl Try.ntmps129 rfl ?_
  repeat' (first | ((with_reducible refine kAL ?_); (first | (refine kL 4394 rfl ?_; first | refine uK (c1) ?_) | refine uA ?_)) | refine uC ?_ | fail)
  all_goals first | (exfalso; omega) | (exact Fin.q Try.results129 (.cons (.tmp rfl) .nil) [])
 ·rw [hg] at c1
  have h := goodR_iff.1 hg
  rw [if_pos rfl]
  refine Cd.enter' Try.func129 rfl Try.ntmps129 rfl ?_
  repeat' (first | ((with_reducible refine kAL ?_); (first | (refine kL 4394 rfl ?_; first | refine uK (c1) ?_) | (refine kL 2217 rfl ?_; first | refine A_shl rfl rfl 69 78 _ _ rfl rfl rfl (by decide) (shl_lit (m := 17592186044416) rfl (by exact wu)) ?_ | refine A_shl rfl rfl 69 78 _ _ rfl rfl rfl (by decide) (shl_lit (m := 1099511627776) rfl (by exact wu)) ?_ | refine A_bits rfl rfl .or 69 69 _ _ rfl rfl rfl rfl (or_sum 32 (M := 4294967296) rfl (by omega) (by omega) (by omega) (by omega) (by omega) (by omega)) ?_ | refine A_bits rfl rfl .or 69 69 _ _ rfl rfl rfl rfl (or_sum 40 (M := 1099511627776) rfl (by omega) (by omega) (by omega) (by omega) (by omega) (by omega)) ?_ | refine A_bits rfl rfl .or 69 69 _ _ rfl rfl rfl rfl (or_sum 44 (M := 17592186044416) rfl (by omega) (by omega) (by omega) (by omega) (by omega) (by omega)) ?_ | refine A_shl rfl rfl 69 78 _ _ rfl rfl rfl (by decide) (shl_lit (m := 4294967296) rfl (by exact wu)) ?_) | refine uA ?_)) | refine uC ?_ | fail)
  all_goals first | (exfalso; omega) | (exact Fin.q Try.results129 (.cons (.tmp rfl) .nil) [])
theorem pread_c (w : Int) (hw : 0 ≤ w ∧ w ≤ 18446744073709551615) : Cd Try.prog 53 [u64 w] (aR (readR w)) [] := by
 unfold readR
 refine Cd.enter' Try.func53 rfl Try.ntmps53 rfl ?_
 repeat' (first | ((with_reducible refine kAL ?_); (first | (refine kL 2217 rfl ?_; first | refine A_shr rfl rfl 69 78 _ _ rfl rfl rfl (by decide) (fdiv_lit (m := 17592186044416) rfl (by decide)) ?_ | refine A_shr rfl rfl 69 78 _ _ rfl rfl rfl (by decide) (fdiv_lit (m := 1099511627776) rfl (by decide)) ?_ | refine A_bits rfl rfl .and 69 69 _ _ rfl rfl rfl rfl (and_lit 4 (M := 16) rfl rfl (by omega) (by omega) (by omega)) ?_ | refine A_shr rfl rfl 69 78 _ _ rfl rfl rfl (by decide) (fdiv_lit (m := 4294967296) rfl (by decide)) ?_ | refine A_bits rfl rfl .and 69 69 _ _ rfl rfl rfl rfl (and_lit 8 (M := 256) rfl rfl (by omega) (by omega) (by omega)) ?_ | refine A_bits rfl rfl .and 69 69 _ _ rfl rfl rfl rfl (and_lit 32 (M := 4294967296) rfl rfl (by omega) (by omega) (by omega)) ?_) | refine uA ?_)) | refine uC ?_ | fail)
 all_goals first | (exfalso; omega) | (exact Fin.q Try.results53 (.cons (.agg rfl rfl ud71 rfl inf71 (us := [_, _, _, _]) rfl rfl) .nil) [])
theorem rgood_c (r : Rst) : Cd Try.prog 134 [aR r] (bo (goodR r)) [] := by
 unfold goodR fitI
 refine Cd.enter' Try.func134 rfl Try.ntmps134 rfl ?_
 repeat' (first | ((with_reducible refine kAL ?_); (first | refine uA ?_ | refine uS 6 (fun hb => ?_) (fun hb => ?_) | refine uS 11 (fun hb => ?_) (fun hb => ?_) | refine uS 16 (fun hb => ?_) (fun hb => ?_) | refine uS 21 (fun hb => ?_) (fun hb => ?_) | refine uS 26 (fun hb => ?_) (fun hb => ?_) | refine uS 31 (fun hb => ?_) (fun hb => ?_) | refine uS 36 (fun hb => ?_) (fun hb => ?_))) | refine uC ?_ | fail)
 all_goals first | (exfalso; omega) | (refine Fin.q Try.results134 (.cons (.tmp rfl) .nil) [] (hr := (.t ?_)))
 all_goals first | (simp [*]; done) | (simp only [Tr.v.injEq, Value.bool.injEq, ← Bool.decide_and]; exact decide_eq_decide.2 (by omega)) | (simp only [Tr.v.injEq, Value.bool.injEq, ← Bool.decide_and]; exact (decide_eq_false (by omega)).symm) | skip
theorem rresult_c (r : Rst) : Cd Try.prog 119 [aR r] (u64 (wordR r)) [] := by
 have c1 := rgood_c r
 unfold wordR
 cases hg : goodR r
 ·rw [hg] at c1
  refine Cd.enter' Try.func119 rfl Try.ntmps119 rfl ?_
  repeat' (first | ((with_reducible refine kAL ?_); (first | (refine kL 4298 rfl ?_; first | refine uK (c1) ?_) | refine uA ?_)) | refine uC ?_ | fail)
  all_goals first | (exfalso; omega) | (exact Fin.q Try.results119 (.cons (.tmp rfl) .nil) [])
 ·rw [hg] at c1
  have h := goodR_iff.1 hg
  rw [if_pos rfl]
  refine Cd.enter' Try.func119 rfl Try.ntmps119 rfl ?_
  repeat' (first | ((with_reducible refine kAL ?_); (first | (refine kL 4298 rfl ?_; first | refine uK (c1) ?_) | refine uA ?_)) | refine uC ?_ | fail)
  all_goals first | (exfalso; omega) | (refine Fin.q Try.results119 (.cons (.tmp rfl) .nil) [] (hr := (.t ?_)))
  all_goals first | (congr 3; omega) | skip
theorem rread_c (w : Int) (hw : 0 ≤ w ∧ w ≤ 18446744073709551615) : Cd Try.prog 58 [u64 w] (aR (readR w)) [] := by
 unfold readR
 refine Cd.enter' Try.func58 rfl Try.ntmps58 rfl ?_
 repeat' (first | refine uA ?_ | refine uC ?_ | fail)
 all_goals first | (exfalso; omega) | ((refine Fin.mkv (rs := _) Try.results58 (.cons (.agg rfl rfl ud71 rfl inf71 (us := [_, _, _, _]) rfl rfl) .nil) [] (by decide) rfl ?_ ?_ ?_ <;> repeat' (skip; first | exact .nil | refine .cons rfl ?_ ?_ | refine .cons ?_ ?_ | refine .row ?_ | refine .rset ?_ | refine .box ?_ | exact .gone | refine .aggL ?_ | refine .tupL ?_ | refine .old rfl ?_ | refine .new rfl rfl rfl ?_ | exact .nl | exact .optr rfl | exact .nptr rfl rfl rfl | refine .t ?_ | exact .any _ | rfl)))
 all_goals (refine congrArg (fun z => Tr.v (Value.int IntKind.i64 z)) ?_; dsimp only; omega)
end
section
def wpad (l : List Int) (n : Nat) : List Int := (List.range n).map fun i => l.getD i 0
def valsOK (l : List Int) (most : Int) : Bool := decide ((l.length : Int) ≤ most) && l.all fun x => inI x 0 4294967295
def resOK (l : List Rst) (n : Int) : Bool := decide ((l.length : Int) = n) && l.all goodR
def chanOK (cap : Int) (x : DChan) : Bool := inI x.gen 0 4095 && inI x.cap 0 cap && valsOK x.buf x.cap && (x.used || (!x.closed && decide (x.cap = 0)))
def caseOK (k : DCase) : Bool := decide (k.dir = 1 ∨ k.dir = 2) && inI k.handle 0 65535 && inI k.value 0 4294967295
def waitOK (w : DWait) : Bool :=
 if w.on then inI w.ticket 0 4294967295 && inI w.seq 0 1048575 && decide (1 ≤ w.cases.length ∧ w.cases.length ≤ 3) && w.cases.all caseOK
 else decide (w.ticket = 0) && decide (w.seq = 0) && decide (w.cases = [])
def fitsH (c : DConf) (h : DHall) : Bool :=
 chkC c && decide (c.kind = 3) && inI h.ticket 0 4294967295 && decide ((h.chans.length : Int) = c.chans) && decide ((h.waits.length : Int) = c.threads) && resOK h.done c.threads && h.chans.all (chanOK c.cap) && h.waits.all waitOK
def fitsX (c : DConf) (x : DCells) : Bool := chkC c && decide (c.kind ≠ 3) && decide (x.cap = c.cap) && valsOK x.list c.cap && resOK x.done c.threads
def bitI (b : Bool) : Int := if b then 1 else 0
def headC (x : DChan) : Int := x.gen + 4096 * x.cap + 65536 * bitI x.used + 131072 * bitI x.closed + 1048576 * x.buf.length
def headW (w : DWait) : Int := bitI w.on + 2 * w.cases.length + 16 * w.seq + 4294967296 * w.ticket
def wordK (k : DCase) : Int := k.dir + 256 * k.handle + 4294967296 * k.value
def putC (cap : Int) (x : DChan) : List Int := headC x :: wpad x.buf cap.toNat
def putW3 (w : DWait) : List Int := headW w :: wpad (w.cases.map wordK) 3
def putH (c : DConf) (h : DHall) : List Int := if fitsH c h then h.ticket :: (h.chans.flatMap (putC c.cap) ++ (h.waits.flatMap putW3 ++ h.done.map wordR)) else []
def putX (c : DConf) (x : DCells) : List Int := if fitsX c x then (x.list.length : Int) :: (wpad x.list c.cap.toNat ++ x.done.map wordR) else []
def rdRow (l : List Int) (n : Nat) (m : Int) : List Int := ((l.take n).take m.toNat).map fun w => w % 4294967296
def rdC (cap : Nat) (l : List Int) : DChan := ⟨l.headD 0 % 4096, l.headD 0 / 4096 % 16, decide (l.headD 0 / 65536 % 2 = 1), decide (l.headD 0 / 131072 % 2 = 1), rdRow (l.drop 1) cap (l.headD 0 / 1048576 % 16)⟩
def rdK (w : Int) : DCase := ⟨w % 256, w / 256 % 65536, w / 4294967296⟩
def rdW (l : List Int) : DWait := ⟨decide (l.headD 0 % 2 = 1), l.headD 0 / 4294967296, l.headD 0 / 16 % 1048576, (((l.drop 1).take 3).take (l.headD 0 / 2 % 8).toNat).map rdK⟩
def rdCs (cap : Nat) (l : List Int) (n : Nat) : List DChan := (List.range n).map fun i => rdC cap (l.drop (i * (cap + 1)))
def rdWs (l : List Int) (n : Nat) : List DWait := (List.range n).map fun i => rdW (l.drop (i * 4))
def rdRs (l : List Int) (n : Nat) : List Rst := (l.take n).map readR
def rawH (c : DConf) (l : List Int) : DHall :=
 ⟨l.headD 0 % 4294967296, rdCs c.cap.toNat (l.drop 1) c.chans.toNat, rdWs (l.drop (1 + c.chans.toNat * (c.cap.toNat + 1))) c.threads.toNat, rdRs (l.drop (1 + c.chans.toNat * (c.cap.toNat + 1) + c.threads.toNat * 4)) c.threads.toNat⟩
def rawX (c : DConf) (l : List Int) : DCells := ⟨c.cap, rdRow (l.drop 1) c.cap.toNat (l.headD 0), rdRs (l.drop (1 + c.cap.toNat)) c.threads.toNat⟩
def stateC (c : DConf) : Int := if chkC c then (if c.kind = 3 then 1 + c.chans * (1 + c.cap) + c.threads * 4 else 1 + c.cap) else 0
def sizeC (c : DConf) : Int := if chkC c then stateC c + c.threads else 0
def noH : DHall := ⟨0, [], [], []⟩
def noX : DCells := ⟨0, [], []⟩
def mayH (c : DConf) (l : List Int) : Bool := chkC c && decide (c.kind = 3) && decide ((l.length : Int) = sizeC c) && decide (putH c (rawH c l) = l)
def mayX (c : DConf) (l : List Int) : Bool := chkC c && decide (c.kind ≠ 3) && decide ((l.length : Int) = sizeC c) && decide (putX c (rawX c l) = l)
def readH (c : DConf) (l : List Int) : DHall := if mayH c l then rawH c l else noH
def readX (c : DConf) (l : List Int) : DCells := if mayX c l then rawX c l else noX
structure Shaped (c : DConf) : Prop where
 t0 : 1 ≤ c.threads
 t1 : c.threads ≤ 64
 k : c.kind = 1 ∨ c.kind = 2 ∨ c.kind = 3
 h3 : c.kind = 3 → 1 ≤ c.chans ∧ c.chans ≤ 8 ∧ 0 ≤ c.cap ∧ c.cap ≤ 8
 h1 : c.kind ≠ 3 → 1 ≤ c.cap ∧ c.cap ≤ 16
theorem inI_iff {n a b : Int} : inI n a b = true ↔ a ≤ n ∧ n ≤ b := by unfold inI; simp
theorem chkC_shaped {c : DConf} (h : chkC c = true) : Shaped c := by
 unfold chkC at h
 simp only [Bool.and_eq_true, inI_iff] at h
 obtain ⟨⟨⟨⟨⟨⟨a, _⟩, _⟩, _⟩, _⟩, _⟩, o⟩ := h
 unfold ownC at o
 by_cases k : c.kind = 1 ∨ c.kind = 2
 ·rw [if_pos k] at o
  simp only [Bool.and_eq_true, inI_iff, decide_eq_true_eq] at o
  exact ⟨a.1, a.2, by omega, fun h => by omega, fun _ => o.1.1.1⟩
 ·rw [if_neg k] at o
  by_cases k3 : c.kind = 3
  ·rw [if_pos k3] at o
   simp only [Bool.and_eq_true, inI_iff, decide_eq_true_eq] at o
   exact ⟨a.1, a.2, by omega, fun _ => ⟨o.1.1.1.1.1, o.1.1.1.1.2, o.1.1.1.2.1, o.1.1.1.2.2⟩, fun h => absurd k3 h⟩
  ·rw [if_neg k3] at o; cases o
theorem sizeC_H {c : DConf} (h : chkC c = true) (k : c.kind = 3) : sizeC c = 1 + c.chans * (1 + c.cap) + c.threads * 4 + c.threads := by unfold sizeC stateC; rw [if_pos h, if_pos h, if_pos k]
theorem sizeC_X {c : DConf} (h : chkC c = true) (k : c.kind ≠ 3) : sizeC c = 1 + c.cap + c.threads := by unfold sizeC stateC; rw [if_pos h, if_pos h, if_neg k]
theorem wpad_len (l : List Int) (n : Nat) : (wpad l n).length = n := by simp [wpad]
theorem wpad_succ (l : List Int) (n : Nat) : wpad l (n + 1) = wpad l n ++ [l.getD n 0] := by unfold wpad; rw [List.range_succ]; simp
theorem wpad_get (l : List Int) {n i : Nat} (h : i < n) : (wpad l n)[i]? = some (l.getD i 0) := by unfold wpad; rw [List.getElem?_map, List.getElem?_range h]; rfl
theorem wpad_take (l : List Int) {n : Nat} (h : l.length ≤ n) : (wpad l n).take l.length = l := by
 refine List.ext_getElem? fun i => ?_
 rw [List.getElem?_take]
 by_cases hi : i < l.length
 ·rw [if_pos hi, wpad_get l (by omega), List.getD_eq_getElem?_getD, List.getElem?_eq_getElem hi]; rfl
 ·rw [if_neg hi, List.getElem?_eq_none (by omega)]
theorem flat_len {α : Type} {f : α → List Int} {k : Nat} : ∀ (l : List α), (∀ x ∈ l, (f x).length = k) → (l.flatMap f).length = l.length * k
 | [], _ => by simp
 | a :: l, h => by
  rw [List.flatMap_cons, List.length_append, h a (by simp), flat_len l fun x hx => h x (by simp [hx]), List.length_cons, Nat.succ_mul, Nat.add_comm]
theorem flat_drop {α : Type} {f : α → List Int} {k : Nat} (r : List Int) : ∀ (l : List α) (i : Nat), (∀ x ∈ l, (f x).length = k) → i ≤ l.length → (l.flatMap f ++ r).drop (i * k) = (l.drop i).flatMap f ++ r
 | l, 0, _, _ => by simp
 | [], i + 1, _, h => by simp at h
 | a :: l, i + 1, h, hi => by
  have e : ((f a) ++ (l.flatMap f ++ r)).drop k = l.flatMap f ++ r := by
   have := List.drop_left (l₁ := f a) (l₂ := l.flatMap f ++ r)
   rwa [h a (by simp)] at this
  rw [List.flatMap_cons, List.append_assoc, Nat.succ_mul, Nat.add_comm (i * k) k, ← List.drop_drop, e, flat_drop r l i (fun x hx => h x (by simp [hx])) (by simpa using hi), List.drop_succ_cons]
theorem putC_len (cap : Int) (x : DChan) : (putC cap x).length = cap.toNat + 1 := by simp [putC, wpad_len]
theorem putW3_len (w : DWait) : (putW3 w).length = 4 := by simp [putW3, wpad_len]
theorem valsOK_iff {l : List Int} {m : Int} : valsOK l m = true ↔ (l.length : Int) ≤ m ∧ ∀ x ∈ l, 0 ≤ x ∧ x ≤ 4294967295 := by unfold valsOK; simp only [Bool.and_eq_true, decide_eq_true_eq, List.all_eq_true, inI_iff]
theorem mod_row {l : List Int} (h : ∀ x ∈ l, 0 ≤ x ∧ x ≤ 4294967295) : (l.map fun w => w % 4294967296) = l := by
 conv => rhs; rw [← List.map_id l]
 exact List.map_congr_left fun x hx => by have := h x hx; exact Int.emod_eq_of_lt this.1 (by omega)
theorem rdRow_put {l r : List Int} {n : Nat} (hn : l.length ≤ n) (h : ∀ x ∈ l, 0 ≤ x ∧ x ≤ 4294967295) : rdRow (wpad l n ++ r) n l.length = l := by
 unfold rdRow
 have e : (wpad l n ++ r).take n = wpad l n := by
  have := List.take_left (l₁ := wpad l n) (l₂ := r)
  rwa [wpad_len] at this
 rw [e, Int.toNat_natCast, wpad_take l hn, mod_row h]
theorem bitI_b (b : Bool) : 0 ≤ bitI b ∧ bitI b ≤ 1 := by cases b <;> decide
theorem bitI_1 (b : Bool) : decide (bitI b = 1) = b := by cases b <;> rfl
theorem chanOK_iff {cap : Int} {x : DChan} : chanOK cap x = true ↔ (0 ≤ x.gen ∧ x.gen ≤ 4095) ∧ (0 ≤ x.cap ∧ x.cap ≤ cap) ∧ ((x.buf.length : Int) ≤ x.cap ∧ ∀ y ∈ x.buf, 0 ≤ y ∧ y ≤ 4294967295) ∧ (x.used = true ∨ (x.closed = false ∧ x.cap = 0)) := by
 unfold chanOK; simp only [Bool.and_eq_true, Bool.or_eq_true, inI_iff, valsOK_iff, Bool.not_eq_true', decide_eq_true_eq, and_assoc]
theorem rdC_put {cap : Int} (hc : cap ≤ 15) {x : DChan} (h : chanOK cap x = true) (r : List Int) : rdC cap.toNat (putC cap x ++ r) = x := by
 obtain ⟨h1, h2, ⟨h3, h4⟩, _⟩ := chanOK_iff.1 h
 have b1 := bitI_b x.used
 have b2 := bitI_b x.closed
 have e1 : headC x % 4096 = x.gen := by unfold headC; omega
 have e2 : headC x / 4096 % 16 = x.cap := by unfold headC; omega
 have e3 : headC x / 65536 % 2 = bitI x.used := by unfold headC; omega
 have e4 : headC x / 131072 % 2 = bitI x.closed := by unfold headC; omega
 have e5 : headC x / 1048576 = x.buf.length := by unfold headC; omega
 have e6 : (x.buf.length : Int) % 16 = x.buf.length := by omega
 unfold rdC putC
 simp only [List.cons_append, List.headD_cons, List.drop_succ_cons, List.drop_zero]
 simp only [e1, e2, e3, e4, e5, e6, bitI_1]
 rw [rdRow_put (by omega) h4]
theorem caseOK_iff {k : DCase} : caseOK k = true ↔ (k.dir = 1 ∨ k.dir = 2) ∧ (0 ≤ k.handle ∧ k.handle ≤ 65535) ∧ 0 ≤ k.value ∧ k.value ≤ 4294967295 := by
 unfold caseOK; simp only [Bool.and_eq_true, decide_eq_true_eq, inI_iff, and_assoc]
theorem rdK_word {k : DCase} (h : caseOK k = true) : rdK (wordK k) = k := by
 obtain ⟨h1, h2, h3⟩ := caseOK_iff.1 h
 obtain ⟨d, n, v⟩ := k
 dsimp only at h1 h2 h3
 unfold rdK wordK
 dsimp only
 congr 1 <;> omega
theorem waitOK_iff {w : DWait} : waitOK w = true ↔ (w.on = true ∧ (0 ≤ w.ticket ∧ w.ticket ≤ 4294967295) ∧ (0 ≤ w.seq ∧ w.seq ≤ 1048575) ∧ (1 ≤ w.cases.length ∧ w.cases.length ≤ 3) ∧ ∀ k ∈ w.cases, caseOK k = true) ∨ (w.on = false ∧ w.ticket = 0 ∧ w.seq = 0 ∧ w.cases = []) := by
 unfold waitOK
 cases w.on
 ·simp [and_assoc]
 ·simp only [if_true, Bool.and_eq_true, decide_eq_true_eq, List.all_eq_true, inI_iff, and_assoc, true_and, Bool.true_eq_false, false_and, or_false]
structure WaitB (w : DWait) : Prop where
 t : 0 ≤ w.ticket ∧ w.ticket ≤ 4294967295
 s : 0 ≤ w.seq ∧ w.seq ≤ 1048575
 n : w.cases.length ≤ 3
 k : ∀ k ∈ w.cases, caseOK k = true
theorem waitOK_b {w : DWait} (h : waitOK w = true) : WaitB w := by
 rcases waitOK_iff.1 h with ⟨_, a, b, c, d⟩ | ⟨_, a, b, c⟩
 ·exact ⟨a, b, c.2, d⟩
 ·exact ⟨by omega, by omega, by rw [c]; decide, by rw [c]; intro k hk; cases hk⟩
theorem rdW_put {w : DWait} (h : waitOK w = true) (r : List Int) : rdW (putW3 w ++ r) = w := by
 obtain ⟨h1, h2, h3, h4⟩ := waitOK_b h
 have b1 := bitI_b w.on
 have e1 : headW w % 2 = bitI w.on := by unfold headW; omega
 have e2 : headW w / 4294967296 = w.ticket := by unfold headW; omega
 have e3 : headW w / 16 % 1048576 = w.seq := by unfold headW; omega
 have e4 : headW w / 2 % 8 = w.cases.length := by unfold headW; omega
 unfold rdW putW3
 simp only [List.cons_append, List.headD_cons, List.drop_succ_cons, List.drop_zero]
 have e5 : (wpad (w.cases.map wordK) 3 ++ r).take 3 = wpad (w.cases.map wordK) 3 := by
  have := List.take_left (l₁ := wpad (w.cases.map wordK) 3) (l₂ := r)
  rwa [wpad_len] at this
 simp only [e1, e2, e3, e4, bitI_1, e5, Int.toNat_natCast]
 have := wpad_take (w.cases.map wordK) (n := 3) (by simpa using h3)
 rw [List.length_map] at this
 rw [this, List.map_map]
 have : w.cases.map (rdK ∘ wordK) = w.cases := by
  conv => rhs; rw [← List.map_id w.cases]
  exact List.map_congr_left fun k hk => rdK_word (h4 k hk)
 rw [this]
theorem readR_word {r : Rst} (h : goodR r = true) : readR (wordR r) = r := by
 have g := goodR_iff.1 h
 obtain ⟨a, b, c, d⟩ := r
 unfold wordR
 rw [if_pos h]
 dsimp only at g
 unfold readR
 dsimp only
 congr 1 <;> omega
theorem resOK_iff {l : List Rst} {n : Int} : resOK l n = true ↔ (l.length : Int) = n ∧ ∀ r ∈ l, goodR r = true := by unfold resOK; simp only [Bool.and_eq_true, decide_eq_true_eq, List.all_eq_true]
theorem rdRs_put {l : List Rst} (h : ∀ r ∈ l, goodR r = true) : rdRs (l.map wordR) l.length = l := by
 unfold rdRs
 rw [List.take_of_length_le (by simp), List.map_map]
 conv => rhs; rw [← List.map_id l]
 exact List.map_congr_left fun r hr => readR_word (h r hr)
theorem range_get {α : Type} {l : List α} {f : Nat → α} (h : ∀ i a, l[i]? = some a → f i = a) : (List.range l.length).map f = l := by
 refine List.ext_getElem? fun i => ?_
 rw [List.getElem?_map]
 by_cases hi : i < l.length
 ·rw [List.getElem?_range hi, List.getElem?_eq_getElem hi, Option.map_some, h i _ (List.getElem?_eq_getElem hi)]
 ·rw [List.getElem?_eq_none (by simpa using hi), List.getElem?_eq_none (by omega)]; rfl
theorem drop_cons_of {α : Type} {l : List α} {i : Nat} {a : α} (h : l[i]? = some a) : l.drop i = a :: l.drop (i + 1) := List.drop_eq_getElem?_toList_append.trans (by rw [h]; rfl)
theorem fitsH_iff {c : DConf} {h : DHall} : fitsH c h = true ↔ chkC c = true ∧ c.kind = 3 ∧ (0 ≤ h.ticket ∧ h.ticket ≤ 4294967295) ∧ (h.chans.length : Int) = c.chans ∧ (h.waits.length : Int) = c.threads ∧ ((h.done.length : Int) = c.threads ∧ ∀ r ∈ h.done, goodR r = true) ∧ (∀ x ∈ h.chans, chanOK c.cap x = true) ∧ ∀ w ∈ h.waits, waitOK w = true := by
 unfold fitsH; simp only [Bool.and_eq_true, decide_eq_true_eq, List.all_eq_true, inI_iff, resOK_iff, and_assoc]
theorem putH_len {c : DConf} {h : DHall} (hf : fitsH c h = true) : ((putH c h).length : Int) = sizeC c := by
 obtain ⟨h0, h1, h2, h3, h4, ⟨h5, h6⟩, h7, h8⟩ := fitsH_iff.1 hf
 have hs := chkC_shaped h0
 have hb := hs.h3 h1
 unfold putH
 rw [if_pos hf, sizeC_H h0 h1, List.length_cons, List.length_append, List.length_append, flat_len _ fun x _ => putC_len _ x, flat_len _ fun w _ => putW3_len w, List.length_map]
 obtain ⟨n, hn⟩ : ∃ n : Nat, c.cap = n := ⟨c.cap.toNat, by omega⟩
 have : ((h.chans.length * (c.cap.toNat + 1) : Nat) : Int) = c.chans * (1 + c.cap) := by rw [Int.natCast_mul, h3, hn, Int.toNat_natCast]; congr 1; omega
 omega
theorem rawH_put {c : DConf} {h : DHall} (hf : fitsH c h = true) : rawH c (putH c h) = h := by
 obtain ⟨h0, h1, h2, h3, h4, ⟨h5, h6⟩, h7, h8⟩ := fitsH_iff.1 hf
 have hs := chkC_shaped h0
 have hb := hs.h3 h1
 have n1 : c.chans.toNat = h.chans.length := by omega
 have n2 : c.threads.toNat = h.waits.length := by omega
 have n3 : h.waits.length = h.done.length := by omega
 unfold rawH putH
 rw [if_pos hf, n1, n2]
 simp only [List.headD_cons, List.drop_succ_cons, List.drop_zero, Nat.add_comm 1, Nat.add_right_comm _ 1]
 have d1 : ∀ i, i ≤ h.chans.length → ∀ r, (h.chans.flatMap (putC c.cap) ++ r).drop (i * (c.cap.toNat + 1)) = (h.chans.drop i).flatMap (putC c.cap) ++ r := fun i hi r => flat_drop r h.chans i (fun x _ => putC_len _ x) hi
 have d2 : ∀ i, i ≤ h.waits.length → ∀ r, (h.waits.flatMap putW3 ++ r).drop (i * 4) = (h.waits.drop i).flatMap putW3 ++ r := fun i hi r => flat_drop r h.waits i (fun x _ => putW3_len x) hi
 have e1 : h.ticket % 4294967296 = h.ticket := by omega
 have e2 : rdCs c.cap.toNat (h.chans.flatMap (putC c.cap) ++ (h.waits.flatMap putW3 ++ h.done.map wordR)) h.chans.length = h.chans := by
  unfold rdCs
  refine range_get fun i a ha => ?_
  rw [d1 i (by have := get_lt ha; omega), drop_cons_of ha, List.flatMap_cons, List.append_assoc]
  exact rdC_put (by omega) (h7 a (List.mem_of_getElem? ha)) _
 have e3 : rdWs (h.waits.flatMap putW3 ++ h.done.map wordR) h.waits.length = h.waits := by
  unfold rdWs
  refine range_get fun i a ha => ?_
  rw [d2 i (by have := get_lt ha; omega), drop_cons_of ha, List.flatMap_cons, List.append_assoc]
  exact rdW_put (h8 a (List.mem_of_getElem? ha)) _
 have e4 : rdRs (h.done.map wordR) h.waits.length = h.done := by rw [n3]; exact rdRs_put h6
 rw [e1, e2, d1 _ (Nat.le_refl _), List.drop_length, List.flatMap_nil, List.nil_append, e3, ← List.drop_drop, d1 _ (Nat.le_refl _), List.drop_length, List.flatMap_nil, List.nil_append, d2 _ (Nat.le_refl _), List.drop_length, List.flatMap_nil, List.nil_append, e4]
theorem mayH_put (c : DConf) (h : DHall) : mayH c (putH c h) = fitsH c h := by
 cases hf : fitsH c h
 ·have : putH c h = [] := by unfold putH; rw [hf]; rfl
  unfold mayH
  rw [this]
  cases h0 : chkC c
  ·rfl
  ·by_cases h1 : c.kind = 3
   ·have hs := chkC_shaped h0
    have hb := hs.h3 h1
    have := hs.t0
    have hp : 0 ≤ c.chans * (1 + c.cap) := Int.mul_nonneg (by omega) (by omega)
    have e : ¬ ((([] : List Int).length : Int) = sizeC c) := by rw [sizeC_H h0 h1]; simp only [List.length_nil]; omega
    rw [decide_eq_false e]; simp
   ·rw [decide_eq_false h1]; rfl
 ·obtain ⟨h0, h1, _⟩ := fitsH_iff.1 hf
  unfold mayH
  rw [h0, decide_eq_true h1, decide_eq_true (putH_len hf), decide_eq_true (by rw [rawH_put hf])]; rfl
theorem fitsX_iff {c : DConf} {x : DCells} : fitsX c x = true ↔ chkC c = true ∧ c.kind ≠ 3 ∧ x.cap = c.cap ∧ ((x.list.length : Int) ≤ c.cap ∧ ∀ y ∈ x.list, 0 ≤ y ∧ y ≤ 4294967295) ∧ (x.done.length : Int) = c.threads ∧ ∀ r ∈ x.done, goodR r = true := by
 unfold fitsX; simp only [Bool.and_eq_true, decide_eq_true_eq, valsOK_iff, resOK_iff, and_assoc]
theorem putX_len {c : DConf} {x : DCells} (hf : fitsX c x = true) : ((putX c x).length : Int) = sizeC c := by
 obtain ⟨h0, h1, h2, ⟨h3, h4⟩, h5, h6⟩ := fitsX_iff.1 hf
 have hs := chkC_shaped h0
 have hb := hs.h1 h1
 unfold putX
 rw [if_pos hf, sizeC_X h0 h1, List.length_cons, List.length_append, wpad_len, List.length_map]
 omega
theorem rawX_put {c : DConf} {x : DCells} (hf : fitsX c x = true) : rawX c (putX c x) = x := by
 obtain ⟨h0, h1, h2, ⟨h3, h4⟩, h5, h6⟩ := fitsX_iff.1 hf
 have hs := chkC_shaped h0
 have hb := hs.h1 h1
 unfold rawX putX
 rw [if_pos hf]
 simp only [List.headD_cons, List.drop_succ_cons, List.drop_zero, Nat.add_comm 1]
 have e5 : (wpad x.list c.cap.toNat ++ x.done.map wordR).drop c.cap.toNat = x.done.map wordR := by
  have := List.drop_left (l₁ := wpad x.list c.cap.toNat) (l₂ := x.done.map wordR)
  rwa [wpad_len] at this
 rw [rdRow_put (by omega) h4, e5]
 rw [show c.threads.toNat = x.done.length by omega, rdRs_put h6, ← h2]
theorem mayX_put (c : DConf) (x : DCells) : mayX c (putX c x) = fitsX c x := by
 cases hf : fitsX c x
 ·have : putX c x = [] := by unfold putX; rw [hf]; rfl
  unfold mayX
  rw [this]
  cases h0 : chkC c
  ·rfl
  ·by_cases h1 : c.kind ≠ 3
   ·have hs := chkC_shaped h0
    have hb := hs.h1 h1
    have := hs.t0
    have e : ¬ ((([] : List Int).length : Int) = sizeC c) := by rw [sizeC_X h0 h1]; simp only [List.length_nil]; omega
    rw [decide_eq_false e]; simp
   ·rw [decide_eq_false h1]; rfl
 ·obtain ⟨h0, h1, _⟩ := fitsX_iff.1 hf
  unfold mayX
  rw [h0, decide_eq_true h1, decide_eq_true (putX_len hf), decide_eq_true (by rw [rawX_put hf])]; rfl
end
end Go.Proofs.Ytnfbggpkiekpdaa
