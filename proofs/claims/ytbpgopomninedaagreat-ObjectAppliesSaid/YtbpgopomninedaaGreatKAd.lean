/- Joined: XTypes, XTEq, XTIoR, XTArr. -/
import Derived.Test.YtbpgopomninedaaGreatRows
import Derived.KernelRfl
import Derived.Test.YtbpgopomninedaaGreatKAc
import Derived.Laws.StructEq
namespace Go.Proofs.YtbpgopomninedaaGreat
set_option linter.unusedVariables false
set_option linter.unusedSimpArgs false
set_option linter.unnecessarySimpa false
theorem inf3 : (Tryz.prog.info? 3).map (fun i => (i.zero, i.size, i.bytes)) = some (some (.int .i64 0), 1, 8) := by kernel_rfl
theorem inf4 : (Tryz.prog.info? 4).map (fun i => (i.zero, i.size, i.bytes)) = some (some (.bool false), 1, 1) := by kernel_rfl
theorem inf22 : (Tryz.prog.info? 22).map (fun i => (i.zero, i.size, i.bytes)) = some (some (.slice none 0 0), 1, 24) := by kernel_rfl
theorem inf24 : (Tryz.prog.info? 24).map (fun i => (i.zero, i.size, i.bytes)) = some (some (.agg #[.int .i64 0, .int .i64 0, .int .i64 0, .int .i64 0, .int .i64 0, .int .i64 0, .int .i64 0, .int .i64 0, .int .i64 0, .int .i64 0, .slice none 0 0]), 11, 104) := by kernel_rfl
theorem inf25 : (Tryz.prog.info? 25).map (fun i => (i.zero, i.size, i.bytes)) = some (some (.slice none 0 0), 1, 24) := by kernel_rfl
theorem inf26 : (Tryz.prog.info? 26).map (fun i => (i.zero, i.size, i.bytes)) = some (some (.slice none 0 0), 1, 24) := by kernel_rfl
theorem inf28 : (Tryz.prog.info? 28).map (fun i => (i.zero, i.size, i.bytes)) = some (some (.agg #[.int .i64 0, .int .i64 0, .int .i64 0, .bool false, .slice none 0 0]), 5, 56) := by kernel_rfl
theorem inf31 : (Tryz.prog.info? 31).map (fun i => (i.zero, i.size, i.bytes)) = some (some (.int .u64 0), 1, 8) := by kernel_rfl
theorem inf36 : (Tryz.prog.info? 36).map (fun i => (i.zero, i.size, i.bytes)) = some (some (.slice none 0 0), 1, 24) := by kernel_rfl
theorem inf38 : (Tryz.prog.info? 38).map (fun i => (i.zero, i.size, i.bytes)) = some (some (.agg #[.int .i64 0, .int .i64 0, .int .i64 0, .int .i64 0, .int .i64 0, .int .i64 0, .bool false, .slice none 0 0]), 8, 80) := by kernel_rfl
theorem inf40 : (Tryz.prog.info? 40).map (fun i => (i.zero, i.size, i.bytes)) = some (some (.int .i64 0), 1, 8) := by kernel_rfl
theorem inf42 : (Tryz.prog.info? 42).map (fun i => (i.zero, i.size, i.bytes)) = some (some (.agg #[.int .i64 0, .int .i64 0, .int .i64 0, .int .i64 0]), 4, 32) := by kernel_rfl
theorem inf45 : (Tryz.prog.info? 45).map (fun i => (i.zero, i.size, i.bytes)) = some (some (.slice none 0 0), 1, 24) := by kernel_rfl
theorem inf46 : (Tryz.prog.info? 46).map (fun i => (i.zero, i.size, i.bytes)) = some (some (.slice none 0 0), 1, 24) := by kernel_rfl
theorem inf47 : (Tryz.prog.info? 47).map (fun i => (i.zero, i.size, i.bytes)) = some (some (.slice none 0 0), 1, 24) := by kernel_rfl
theorem inf49 : (Tryz.prog.info? 49).map (fun i => (i.zero, i.size, i.bytes)) = some (some (.agg #[.int .i64 0, .slice none 0 0, .slice none 0 0, .slice none 0 0]), 4, 80) := by kernel_rfl
theorem inf53 : (Tryz.prog.info? 53).map (fun i => (i.zero, i.size, i.bytes)) = some (some (.agg #[.int .i64 0, .slice none 0 0, .slice none 0 0]), 3, 56) := by kernel_rfl
theorem inf72 : (Tryz.prog.info? 72).map (fun i => (i.zero, i.size, i.bytes)) = some (some (.agg #[.int .i64 0, .int .i64 0, .int .i64 0]), 3, 24) := by kernel_rfl
theorem inf77 : (Tryz.prog.info? 77).map (fun i => (i.zero, i.size, i.bytes)) = some (some (.nilFunc), 1, 8) := by kernel_rfl
theorem inf80 : (Tryz.prog.info? 80).map (fun i => (i.zero, i.size, i.bytes)) = some (some (.nilFunc), 1, 8) := by kernel_rfl
theorem inf82 : (Tryz.prog.info? 82).map (fun i => (i.zero, i.size, i.bytes)) = some (some (.pointer none), 1, 8) := by kernel_rfl
theorem inf84 : (Tryz.prog.info? 84).map (fun i => (i.zero, i.size, i.bytes)) = some (some (.agg #[.slice none 0 0]), 1, 24) := by kernel_rfl
theorem inf87 : (Tryz.prog.info? 87).map (fun i => (i.zero, i.size, i.bytes)) = some (some (.agg #[.int .i64 0, .int .i64 0, .bool false, .bool false, .slice none 0 0]), 5, 48) := by kernel_rfl
theorem inf90 : (Tryz.prog.info? 90).map (fun i => (i.zero, i.size, i.bytes)) = some (some (.agg #[.bool false, .int .i64 0, .int .i64 0, .slice none 0 0]), 4, 48) := by kernel_rfl
theorem inf100 : (Tryz.prog.info? 100).map (fun i => (i.zero, i.size, i.bytes)) = some (some (.pointer none), 1, 8) := by kernel_rfl
theorem inf103 : (Tryz.prog.info? 103).map (fun i => (i.zero, i.size, i.bytes)) = some (some (.agg #[.int .i64 0, .slice none 0 0, .slice none 0 0, .slice none 0 0, .int .i64 0, .int .i64 0, .int .i64 0, .int .i64 0, .int .i64 0, .int .i64 0, .int .i64 0, .int .i64 0, .int .i64 0, .int .i64 0, .slice none 0 0, .int .i64 0, .int .i64 0]), 17, 200) := by kernel_rfl
theorem inf108 : (Tryz.prog.info? 108).map (fun i => (i.zero, i.size, i.bytes)) = some (some (.pointer none), 1, 8) := by kernel_rfl
theorem inf128 : (Tryz.prog.info? 128).map (fun i => (i.zero, i.size, i.bytes)) = some (some (.nilFunc), 1, 8) := by kernel_rfl
theorem inf130 : (Tryz.prog.info? 130).map (fun i => (i.zero, i.size, i.bytes)) = some (some (.nilFunc), 1, 8) := by kernel_rfl
theorem inf136 : (Tryz.prog.info? 136).map (fun i => (i.zero, i.size, i.bytes)) = some (some (.nilFunc), 1, 8) := by kernel_rfl
theorem inf137 : (Tryz.prog.info? 137).map (fun i => (i.zero, i.size, i.bytes)) = some (some (.nilFunc), 1, 8) := by kernel_rfl
theorem inf141 : (Tryz.prog.info? 141).map (fun i => (i.zero, i.size, i.bytes)) = some (some (.slice none 0 0), 1, 24) := by kernel_rfl
theorem inf143 : (Tryz.prog.info? 143).map (fun i => (i.zero, i.size, i.bytes)) = some (some (.agg #[.int .i64 0, .int .i64 0, .bool false, .bool false, .slice none 0 0, .slice none 0 0, .int .i64 0, .int .i64 0, .int .i64 0, .int .i64 0, .slice none 0 0]), 11, 128) := by kernel_rfl
theorem inf152 : (Tryz.prog.info? 152).map (fun i => (i.zero, i.size, i.bytes)) = some (some (.nilFunc), 1, 8) := by kernel_rfl
theorem inf165 : (Tryz.prog.info? 165).map (fun i => (i.zero, i.size, i.bytes)) = some (some (.agg #[.int .i64 0, .int .i64 0, .int .i64 0, .int .i64 0, .int .i64 0]), 5, 40) := by kernel_rfl
abbrev ud3 := @Tryz.underlying3
abbrev ud4 := @Tryz.underlying4
abbrev ud22 := @Tryz.underlying22
abbrev ud24 := @Tryz.underlying24
abbrev ud25 := @Tryz.underlying25
abbrev ud26 := @Tryz.underlying26
abbrev ud28 := @Tryz.underlying28
abbrev ud31 := @Tryz.underlying31
abbrev ud36 := @Tryz.underlying36
abbrev ud38 := @Tryz.underlying38
abbrev ud40 := @Tryz.underlying40
abbrev ud42 := @Tryz.underlying42
abbrev ud45 := @Tryz.underlying45
abbrev ud46 := @Tryz.underlying46
abbrev ud47 := @Tryz.underlying47
abbrev ud49 := @Tryz.underlying49
abbrev ud53 := @Tryz.underlying53
abbrev ud72 := @Tryz.underlying72
abbrev ud77 := @Tryz.underlying77
abbrev ud80 := @Tryz.underlying80
abbrev ud82 := @Tryz.underlying82
abbrev ud84 := @Tryz.underlying84
abbrev ud87 := @Tryz.underlying87
abbrev ud90 := @Tryz.underlying90
abbrev ud97 := @Tryz.underlying97
abbrev ud100 := @Tryz.underlying100
abbrev ud103 := @Tryz.underlying103
abbrev ud108 := @Tryz.underlying108
abbrev ud128 := @Tryz.underlying128
abbrev ud130 := @Tryz.underlying130
abbrev ud136 := @Tryz.underlying136
abbrev ud137 := @Tryz.underlying137
abbrev ud141 := @Tryz.underlying141
abbrev ud143 := @Tryz.underlying143
abbrev ud152 := @Tryz.underlying152
abbrev ud165 := @Tryz.underlying165
end Go.Proofs.YtbpgopomninedaaGreat
namespace Go.Proofs.YtbpgopomninedaaGreat
open Go.RowKit
set_option linter.unusedVariables false
set_option linter.unusedSimpArgs false
set_option linter.unnecessarySimpa false
set_option maxRecDepth 100000
set_option maxHeartbeats 64000000
section
section
variable {P : Program} {w : World}
theorem run_part {t : TypeId} (ha : ∀ w, (isAgg t).run P w = .ok false w) {cs : Array Value} {off : Nat} {v : Value} (hv : cs[off]? = some v) : (part t cs off).run P w = .ok v w := by
 unfold part
 simp only [Sem.run_bind, ha, Result.andThen_ok, Bool.false_eq_true, if_false, hv, Sem.run_pure]
theorem eqf_cons {d : Nat} {xs ys : Array Value} {f : Field} {fs : List Field} (hn : (f.name == "_") = false) {x y : Value} (hx : (part f.type xs f.offset).run P w = .ok x w) (hy : (part f.type ys f.offset).run P w = .ok y w) {p q : Prop} [Decidable p] [Decidable q]
  (h : (Op.equalIn d f.type x y).run P w = .ok (decide p) w) (k : (Op.eqFields d xs ys fs).run P w = .ok (decide q) w) : (Op.eqFields d xs ys (f :: fs)).run P w = .ok (decide (p ∧ q)) w := by
 have hn' : f.name ≠ "_" := by simpa using hn
 unfold Op.eqFields
 simp only [if_pos hn', Sem.run_bind, hx, hy, h, Result.andThen_ok]
 by_cases hp : p
 ·simp only [hp, decide_true, Bool.not_true, Bool.false_eq_true, if_false, true_and]
  exact k
 ·simp [hp]
theorem eqf_nil {d : Nat} {xs ys : Array Value} : (Op.eqFields d xs ys []).run P w = .ok (decide True) w := by
 unfold Op.eqFields; simp
theorem eq_int {t : TypeId} (ht : P.underlying t = some (.int .i64)) (d : Nat) (a b : Int) : (Op.equalIn (d + 1) t (.int .i64 a) (.int .i64 b)).run P w = .ok (decide (a = b)) w := by
 rw [run_equalIn_int w d t .i64 .i64 a b ht]
 by_cases h : a = b <;> simp [h]
theorem A_nes {ops : Array Oper} {Q : QS} {rest : List Oper} {o : Oper} {n : Fr} {T : Nat → AV} {heap : List Ob} {d : Nat} (hw : wantedA n T ops o = true) (hd : o.dst = some d) (xt yt : TypeId) (x y : Operand) (ho : o.op = .binOp .neq xt x y yt) {us vs : Array Value} (hx : cvA (evA n T x) = some (.agg us)) (hy : cvA (evA n T y) = some (.agg vs))
  (hm : P.eqGuardType P.depth xt = false) {p : Prop} [Decidable p] (he : ∀ w, (Op.equalIn 10000 xt (.agg us) (.agg vs)).run P w = .ok (decide p) w) {c : Bool} (hc : (!decide p) = c) (k : AL P ops Q rest n (pu T d (.t (.v (.bool c)))) heap) : AL P ops Q (o :: rest) n T heap := by
 subst hc
 exact A_bin hw hd _ _ _ _ _ ho hx hy (fun w => by rw [Sem.run_bind, run_eqGuard_agg w _ _ _ _ _ _ hm, Result.andThen_ok, run_neq_struct, he, Result.andThen_ok]) rfl k
theorem R_nes {ops : Array Oper} {rest : List Oper} {o : Oper} {n : Fr} {T : Nat → AV} {heap : List Ob} {d : Nat} (hw : wantedA n T ops o = true) (hd : o.dst = some d) (xt yt : TypeId) (x y : Operand) (ho : o.op = .binOp .neq xt x y yt) {us vs : Array Value} (hx : cvA (evA n T x) = some (.agg us)) (hy : cvA (evA n T y) = some (.agg vs))
  (hm : P.eqGuardType P.depth xt = false) {p : Prop} [Decidable p] (he : ∀ w, (Op.equalIn 10000 xt (.agg us) (.agg vs)).run P w = .ok (decide p) w) {c : Bool} (hc : (!decide p) = c) {F : List Dl → (Nat → AV) → List Ob → Prop} {acc : List Dl} (k : RG P ops n F rest (acc ++ [⟨some d, .t (.v (.bool c)), [], []⟩]) (pu T d (.t (.v (.bool c)))) heap) : RG P ops n F (o :: rest) acc T heap :=
 RG.cons hd.symm (fun T' h' hT hH hlen_ => A_nes (by rw [wanted_eqA hT]; exact hw) hd _ _ _ _ ho (by rw [ev_eq hT (by simp [ho, Op.operands])]; exact hx) (by rw [ev_eq hT (by simp [ho, Op.operands])]; exact hy) hm he hc (AL.nil ⟨rfl, rfl, rfl⟩)) rfl rfl k
end
theorem isAgg_no {t : TypeId} {k : IntKind} (h : Tryz.prog.underlying t = some (.int k)) (w : World) : (isAgg t).run Tryz.prog w = .ok false w := by
 unfold isAgg; simp only [Sem.run_bind, run_underlying h, Result.andThen_ok, Sem.run_pure]
set_option maxHeartbeats 4000000
set_option maxRecDepth 100000 in
theorem eqs72 (d : Nat) (a0 a1 a2 b0 b1 b2 : Int) (w : World) : (Op.equalIn (d + 2) 72 (.agg #[.int .i64 a0, .int .i64 a1, .int .i64 a2]) (.agg #[.int .i64 b0, .int .i64 b1, .int .i64 b2])).run Tryz.prog w = .ok (decide (a0 = b0 ∧ a1 = b1 ∧ a2 = b2 ∧ True)) w := by
 rw [run_equalIn_agg w (d + 1) 72 _ _ (by kernel_rfl) (by kernel_rfl)]
 simp only [Program.fieldsOf, Tryz.underlying72]
 refine eqf_cons (x := .int .i64 a0) (y := .int .i64 b0) (by kernel_rfl) (run_part (isAgg_no Tryz.underlying3) (by kernel_rfl)) (run_part (isAgg_no Tryz.underlying3) (by kernel_rfl)) (eq_int Tryz.underlying3 (d + 0) _ _) ?_
 refine eqf_cons (x := .int .i64 a1) (y := .int .i64 b1) (by kernel_rfl) (run_part (isAgg_no Tryz.underlying3) (by kernel_rfl)) (run_part (isAgg_no Tryz.underlying3) (by kernel_rfl)) (eq_int Tryz.underlying3 (d + 0) _ _) ?_
 refine eqf_cons (x := .int .i64 a2) (y := .int .i64 b2) (by kernel_rfl) (run_part (isAgg_no Tryz.underlying3) (by kernel_rfl)) (run_part (isAgg_no Tryz.underlying3) (by kernel_rfl)) (eq_int Tryz.underlying3 (d + 0) _ _) ?_
 exact eqf_nil
end
section
theorem setSel_zip : ∀ (sel : List Nat) (os : List Ob) (heap : List Ob), setSel heap sel os = setAll heap (sel.zip os)
 | [], _, _ => by simp [setSel, setAll]
 | _ :: _, [], _ => by simp [setSel, setAll]
 | i :: sel, o :: os, heap => by rw [setSel, List.zip_cons_cons, setAll, setSel_zip sel os]
def isPtr : AV → Bool
 | .ptr _ _ => true
 | .lp _ => true
 | .rp _ _ _ _ => true
 | _ => false
section
variable {P : Program} {ops : Array Oper} {Q : QS} {rest : List Oper} {o : Oper} {n : Fr} {T : Nat → AV} {heap : List Ob} {d : Nat}
theorem A_nilc (hw : wantedA n T ops o = true) (hd : o.dst = some d) (x : Operand) (ho : o.op = .nilCheck x) {y : AV} (hx : evA n T x = y) (hp : isPtr y = true) (k : AL P ops Q rest n (pu T d y) heap) : AL P ops Q (o :: rest) n T heap := by
 subst hx
 refine AL.val hw hd (fun e a w ρ Z Y hR => ⟨a.eval x, ?_, hR.eval x⟩) k
 have hv := hR.eval x
 have key : ∀ (y : AV) (v : Value), isPtr y = true → Val (Kn heap) ρ w Z Y y v → ∃ p, v = .pointer (some p) := by
  intro y v hp hv
  cases hv <;> first | (cases hp; done) | exact ⟨_, rfl⟩
 obtain ⟨p, e1⟩ := key _ _ hp hv
 unfold execOp; rw [ho]
 simp only [e1]
 rfl
theorem R_nilc {F : List Dl → (Nat → AV) → List Ob → Prop} {acc : List Dl} (hw : wantedA n T ops o = true) (hd : o.dst = some d) (x : Operand) (ho : o.op = .nilCheck x) {y : AV} (hx : evA n T x = y) (hp : isPtr y = true) (k : RG P ops n F rest (acc ++ [⟨some d, y, [], []⟩]) (pu T d y) heap) : RG P ops n F (o :: rest) acc T heap :=
 RG.cons hd.symm (fun T' h' hT hH hlen_ => A_nilc (by rw [wanted_eqA hT]; exact hw) hd x ho (by rw [ev_eq hT (by simp [ho, Op.operands, Call.operands])]; exact hx) hp (AL.nil ⟨rfl, rfl, rfl⟩)) rfl rfl k
theorem A_pkt (hw : wantedA n T ops o = true) (hd : o.dst = some d) (c x y : Operand) (ho : o.op = .pick c x y) (hc : evA n T c = .t (.v (.bool true))) {u : Tr} (hx : evA n T x = .t u) (k : AL P ops Q rest n (pu T d (.t u)) heap) : AL P ops Q (o :: rest) n T heap := A_pick hw hd c x y ho hc hx rfl rfl k
theorem A_pkf (hw : wantedA n T ops o = true) (hd : o.dst = some d) (c x y : Operand) (ho : o.op = .pick c x y) (hc : evA n T c = .t (.v (.bool false))) {u : Tr} (hx : evA n T y = .t u) (k : AL P ops Q rest n (pu T d (.t u)) heap) : AL P ops Q (o :: rest) n T heap := A_pick hw hd c x y ho hc rfl hx rfl k
theorem R_pkt {F : List Dl → (Nat → AV) → List Ob → Prop} {acc : List Dl} (hw : wantedA n T ops o = true) (hd : o.dst = some d) (c x y : Operand) (ho : o.op = .pick c x y) (hc : evA n T c = .t (.v (.bool true))) {u : Tr} (hx : evA n T x = .t u) (k : RG P ops n F rest (acc ++ [⟨some d, .t u, [], []⟩]) (pu T d (.t u)) heap) : RG P ops n F (o :: rest) acc T heap := R_pick hw hd c x y ho hc hx rfl rfl k
theorem R_pkf {F : List Dl → (Nat → AV) → List Ob → Prop} {acc : List Dl} (hw : wantedA n T ops o = true) (hd : o.dst = some d) (c x y : Operand) (ho : o.op = .pick c x y) (hc : evA n T c = .t (.v (.bool false))) {u : Tr} (hx : evA n T y = .t u) (k : RG P ops n F rest (acc ++ [⟨some d, .t u, [], []⟩]) (pu T d (.t u)) heap) : RG P ops n F (o :: rest) acc T heap := R_pick hw hd c x y ho hc rfl hx rfl k
theorem R_callio (hw : wantedA n T ops o = true) (hd : o.dst = some d) {f : FuncId} {fn : Func} (hf : P.funcs[f]? = some fn) {args : Array Operand} {tys : Array TypeId}
  (ho : o.op = .call { callee := .value (.func f), args := args, argTypes := tys }) (sel : List Nat) {xs : List AV} {H : List Ob} {r : AV} {L : List Ob} (hc : Cio P f xs H r L) {acc : List Nat} {F : List Dl → (Nat → AV) → List Ob → Prop} {ac : List Dl}
  (hn : (fn.name == "runtime.NumGoroutine") = false) (hb : fn.body.isNone = false) (hnd : sel.Nodup) (hL : L.length = sel.length) (ha : deep heap 3 (idsVs (args.toList.map (evA n T))) = acc)
  (hH : ∀ h', (∀ i, acc.contains i = true → h'[i]? = heap[i]?) → PassH h' sel sel H) (hp : ∀ h', (∀ i, acc.contains i = true → h'[i]? = heap[i]?) → PassL h' sel (args.toList.map (evA n T)) xs)
  {N : Nat} (hN : heap.length = N) {r' : AV} (hr : upA (gIO sel N) r = r') {U : List (Nat × Ob)} (hU : sel.zip (L.map (upO (gIO sel N))) = U) {heap' : List Ob} (hh : setAll heap U = heap')
  (k : RG P ops n F rest (ac ++ [⟨some d, r', U, acc⟩]) (pu T d r') heap') : RG P ops n F (o :: rest) ac T heap := by
 subst hr hN hU
 have hlk : ∀ x ∈ args.toList, x ∈ o.op.operands.toList := fun x hx => by rw [ho]; simp only [Op.operands, Call.operands, Array.toList_append]; exact List.mem_append_right _ hx
 refine RG.cons (D := ⟨some d, _, sel.zip (L.map (upO (gIO sel heap.length))), acc⟩) hd.symm (fun T' h' hT hA hl => ?_) rfl hh k
 have hargs : args.toList.map (evA n T') = args.toList.map (evA n T) := List.map_congr_left fun x hx => ev_eq hT (hlk x hx)
 have hs : ∀ i, acc.contains i = true → h'[i]? = heap[i]? := fun i hi => hA i (by simpa using hi)
 refine A_callio (by rw [wanted_eqA hT]; exact hw) hd hf hn hb ho sel hnd hc (hH h' hs) (by rw [hargs]; exact hp h' hs) hl rfl rfl (AL.nil ⟨rfl, rfl, ?_⟩)
 rw [List.drop_of_length_le (by omega), List.map_nil, List.append_nil, setSel_zip]
 rfl
end
end
section
section
variable {P : Program} {ops : Array Oper} {Q : QS} {rest : List Oper} {o : Oper} {n : Fr} {T : Nat → AV} {heap : List Ob} {d : Nat}
end
end
end Go.Proofs.YtbpgopomninedaaGreat
