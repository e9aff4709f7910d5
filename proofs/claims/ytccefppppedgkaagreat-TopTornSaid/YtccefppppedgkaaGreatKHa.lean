/- Joined: XTW. -/
import Derived.Below
set_option linter.unusedVariables false
set_option linter.unusedSimpArgs false
set_option linter.unnecessarySimpa false
set_option maxRecDepth 100000
set_option maxHeartbeats 64000000
namespace Go.Proofs.YtccefppppedgkaaGreat
abbrev fN:=@List.length_map
abbrev fO:=@List.mem_of_getElem?
abbrev fP:=@List.length_append
abbrev fQ:=@List.getD_eq_getElem?_getD
abbrev fR:=@if_pos
abbrev fT:=@if_neg
abbrev fV:=@Nat.le_refl
abbrev fW:=@decide_eq_true
abbrev fX:=@Nat.zero_le
abbrev fY:=@List.length_take
abbrev fZ:=@decide_eq_false
abbrev gB:=@Nat.ne_of_beq_eq_false
abbrev gC:=@List.append_assoc
abbrev gD:=@List.getElem?_append_right
abbrev gE:=@Int.toNat_natCast
abbrev gF:=@List.length_cons
abbrev gG:=@Bool.and_eq_true
abbrev gH:=@List.getElem?_append_left
abbrev gI:=@List.length_nil
abbrev gJ:=@List.length_drop
abbrev gK:=@List.getElem?_drop
abbrev gL:=@Int.le_refl
abbrev gM:=@decide_eq_true_eq
abbrev gN:=@List.getElem?_take
abbrev gO:=@List.map_cons
abbrev gP:=@List.getElem?_map
abbrev gQ:=@List.mem_append
abbrev gS:=@List.getElem?_eq_none
abbrev gT:=@List.length_singleton
abbrev gU:=@List.nil_append
abbrev gV:=@Nat.zero_add
abbrev gW:=@List.drop_succ_cons
abbrev gX:=@List.map_nil
abbrev gY:=@List.getElem?_set
abbrev gZ:=@List.cons_append
abbrev iA:=@List.eq_nil_of_length_eq_zero
abbrev iB:=@List.take_add_one
abbrev iC:=@List.append_nil
abbrev iD:=@Int.mul_le_mul_of_nonneg_right
abbrev iE:=@Nat.mul_le_mul_right
abbrev iF:=@List.mem_of_mem_drop
abbrev iG:=@List.set_cons_zero
abbrev iH:=@List.mem_cons
abbrev iI:=@List.all_eq_true
abbrev iJ:=@List.getElem?_eq_some_iff
abbrev iK:=@List.drop_zero
abbrev iL:=@List.set_cons_succ
abbrev iM:=@Bool.false_eq_true
abbrev iN:=@List.mem_singleton
abbrev iO:=@List.ext_getElem?
abbrev iP:=@List.map_append
abbrev iQ:=@List.mem_of_mem_take
abbrev iR:=@List.mem_append_right
abbrev iS:=@List.length_set
abbrev iT:=@Nat.add_zero
abbrev iU:=@List.map_drop
abbrev iV:=@List.length_replicate
abbrev iW:=@List.mem_map
abbrev iX:=@List.mem_or_eq_of_mem_set
abbrev iY:=@Array.getD_eq_getD_getElem?
abbrev iZ:=@List.mem_append_left
abbrev jA:=@Nat.le_trans
abbrev jB:=@Nat.eq_of_beq_eq_true
abbrev jC:=@List.take_append_drop
abbrev jD:=@List.eq_of_mem_replicate
abbrev jE:=@List.take_of_length_le
abbrev jF:=@List.getElem?_set_self
abbrev jG:=@List.getElem?_cons_succ
abbrev jH:=@Bool.false_and
abbrev jI:=@List.take_succ_cons
abbrev jJ:=@List.getElem?_set_ne
abbrev jK:=@Option.getD_some
abbrev jL:=@if_false
abbrev jM:=@List.drop_nil
abbrev jN:=@List.getElem?_of_mem
abbrev jO:=@of_decide_eq_true
abbrev jP:=@Nat.add_sub_cancel_left
abbrev jQ:=@List.take_length
abbrev jR:=@List.map_congr_left
abbrev jS:=@List.take_zero
abbrev jT:=@List.getElem?_cons_zero
abbrev jU:=@if_true
abbrev jV:=@Nat.lt_of_lt_of_le
abbrev jW:=@List.getElem?_range
abbrev jX:=@cond_false
abbrev jY:=@List.foldl_append
abbrev jZ:=@Int.mul_nonneg
abbrev kA:=@Int.add_sub_cancel
abbrev kB:=@Option.some.inj
abbrev kC:=@cond_true
abbrev kD:=@List.drop_drop
abbrev kE:=@Bool.and_false
abbrev kF:=@Nat.succ_mul
abbrev kG:=@List.range_succ
abbrev kH:=@List.mem_cons_self
abbrev kI:=@Nat.le_succ
abbrev kJ:=@decide_eq_decide
abbrev kK:=@List.take_nil
abbrev kM:=@Bool.true_and
abbrev kN:=@List.mem_range
abbrev kO:=@List.getElem?_nil
abbrev kP:=@Classical.em
abbrev kQ:=@Nat.min_eq_left
abbrev kS:=@Option.map_some
abbrev kT:=@List.pairwise_iff_getElem
abbrev kU:=@Array.toList_inj
abbrev kV:=@List.zip_cons_cons
abbrev kW:=@List.pairwise_cons
abbrev kX:=@Nat.beq_refl
abbrev kY:=@List.mem_cons_of_mem
abbrev kZ:=@List.size_toArray
abbrev lE:=@List.length_range
abbrev lF:=@List.foldl_cons
abbrev lG:=@List.nodup_cons
abbrev lH:=@Array.toList_append
abbrev lI:=@List.length_pos_iff
abbrev lJ:=@Nat.sub_self
abbrev lK:=@List.map_toArray
abbrev lN:=@List.any_eq_true
abbrev lO:=@List.not_mem_nil
abbrev lP:=@List.take_left
abbrev lQ:=@List.zip_nil_right
abbrev lR:=@List.filter_append
abbrev lS:=@Bool.or_eq_true
abbrev lT:=@List.pairwise_append
abbrev lU:=@Nat.mul_comm
abbrev lV:=@List.replicate_succ'
abbrev lW:=@List.map_map
abbrev lX:=@List.zip_nil_left
abbrev lY:=@List.nodup_append
abbrev lZ:=@Nat.add_assoc
abbrev mA:=@Array.length_toList
abbrev mE:=@List.all_eq_not_any_not
abbrev mF:=@List.headD_cons
abbrev mG:=@List.dropLast_concat_getLast
abbrev mH:=@false_and
abbrev mI:=@Int.add_assoc
abbrev mJ:=@Nat.ble_eq_true_of_le
abbrev mK:=@List.singleton_append
abbrev mM:=@List.flatMap_cons
abbrev mN:=@Option.some.injEq
abbrev mO:=@Nat.lt_trichotomy
abbrev mP:=@Int.add_mul
abbrev mQ:=@List.drop_length
abbrev mS:=@Array.getElem?_eq_getElem
abbrev mT:=@Int.toNat_of_nonneg
abbrev mU:=@List.set_append
abbrev mV:=@of_decide_eq_false
abbrev mW:=@Nat.add_mul
abbrev mX:=@List.length_eq_zero_iff
abbrev mY:=@List.getElem?_replicate
abbrev mZ:=@List.drop_left
abbrev nA:=@Nat.dvd_refl
abbrev nB:=@Int.mul_le_mul
abbrev nD:=@Int.add_zero
abbrev nE:=@List.flatMap_nil
abbrev nF:=@map_eq_pure_bind
abbrev nG:=@and_assoc
abbrev nH:=@List.filter_cons
abbrev nJ:=@Nat.dvd_add
open Go.RowKit
structure ZQ (q:Prop):Prop where
 o:q
variable {p q r:Prop}
theorem ZK2 {a b:Prop} (x:a→q) (y:b→r) (h:(a→q)→(b→r)→p:=by intro x y;first|exact kcp rfl x y|exact kcn rfl x y|exact kcb rfl x y|exact kcc rfl x y|fail):p:=h x y
theorem ZAL (k:q) (h:ZQ q→p:=by intro zk;first|(with_reducible refine kAL ?_;exact zk.1)|fail):p:=h ⟨k⟩
theorem ZRG (k:q) (h:ZQ q→p:=by intro zk;first|(with_reducible refine kRG ?_;exact zk.1)|fail):p:=h ⟨k⟩
theorem ZE5 (h:p:=by first|(exfalso;omega)|fail):p:=h
theorem ZbT {n m:Nat} (h:Nat.ble n m=true):n≤m:=Nat.le_of_ble_eq_true h
theorem ZgE {α:Type _} {l:List α} {i:Nat} (h:i<l.length):l[i]? = some l[i]:=List.getElem?_eq_getElem h
theorem ZEN {a b:Prop} (x:a) (y:b) (k:q) (h:a→b→ZQ q→p:=by intro x y zk;first|exact Cd.enter' x rfl y rfl zk.1|exact Cio.enter' x rfl y rfl qM zk.1|exact C.enter' x rfl y rfl qM zk.1|fail):p:=h x y ⟨k⟩
theorem ZE1 (h:p:=by first|exact .nil|exact .gone|exact .nl|exact .optr rfl|exact .nptr rfl rfl rfl|fail):p:=h
theorem ZE2 (x:q) (y:r) (h:ZQ q→ZQ r→p:=by intro x y;first|exact .cons rfl x.1 y.1|exact .cons x.1 y.1|fail):p:=h ⟨x⟩ ⟨y⟩
theorem ZE3 (x:q) (h:ZQ q→p:=by intro x;first|exact .row x.1|exact .rset x.1|exact .box x.1|exact .aggL x.1|exact .tupL x.1|exact .old rfl x.1|exact .new rfl rfl rfl x.1|exact .t x.1|fail):p:=h ⟨x⟩
theorem ZE4 (h:p:=by first|exact .any _|rfl|fail):p:=h
theorem ZQ1 {c:Prop} (x:c) (k:q) (h:c→ZQ q→p:=by intro x zk;first|(refine uQ x 0 ?_;exact zk.1)|fail):p:=h x ⟨k⟩
theorem AT {c:Prop} (x:c) (k:q) (h:c→ZQ q→p:=by intro x zk;first|(refine uQ x 0 ?_;exact zk.1)|(refine uQ x 1 ?_;exact zk.1)|(refine uQ x 2 ?_;exact zk.1)|(refine uQ x 3 ?_;exact zk.1)|(refine uQ x 4 ?_;exact zk.1)|(refine uQ x 5 ?_;exact zk.1)|(refine uQ x 6 ?_;exact zk.1)|(refine uQ x 7 ?_;exact zk.1)|(refine uQ x 8 ?_;exact zk.1)|(refine uQ x 9 ?_;exact zk.1)|(refine uQ x 10 ?_;exact zk.1)|(refine uQ x 11 ?_;exact zk.1)|(refine uQ x 12 ?_;exact zk.1)|(refine uQ x 13 ?_;exact zk.1)|fail):p:=h x ⟨k⟩
theorem A0 (k:q) (h:ZQ q→p:=by intro zk;first|((first|refine uA ?_|refine uC ?_);exact zk.1)|fail):p:=h ⟨k⟩
theorem A2 {c:Prop} (x:c) (h:c→p:=by intro x;first|(exfalso;omega)|(exact Fin.q x (.cons (.tmp rfl) .nil) [])|fail):p:=h x
theorem A3 {c:Prop} (x:c) (h:c→p:=by intro x;first|(exfalso;omega)|((first|exact Fin.q x (.cons (.tmp rfl) .nil) []|refine Fin.q x (.cons (.tmp rfl) .nil) [] (hr:=(.t ?_))|refine Fin.mkv (rs:=_) x (.cons (.tmp rfl) .nil) [] (by decide) rfl ?_ ?_ ?_<;>repeat' (first|exact ZE1|refine ZE2 ?_ ?_|refine ZE3 ?_|exact ZE4|fail)))|fail):p:=h x
theorem A4 {c:Prop} (x:c) (h:c→p:=by intro x;first|(exfalso;omega)|(refine fnz 0 ?_;(first|exact Fin.q x .nil []|refine Fin.q x .nil [] (hr:=(.tupL .nil))|refine Fin.mkv (rs:=_) x .nil [] (by decide) rfl ?_ ?_ ?_<;>repeat' (first|exact ZE1|refine ZE2 ?_ ?_|refine ZE3 ?_|exact ZE4|fail)))|fail):p:=h x
theorem A5 {c q1:Prop} (x:c) (k1:q1) (h:c→ZQ q1→p:=by intro x z1;first|exact Fin.q x (.cons (.tmp rfl) .nil) [] (hr:=(.t z1.1))|fail):p:=h x ⟨k1⟩
theorem A6 {c:Prop} (x:c) (h:c→p:=by intro x;first|exact Fin.q x (.cons (.tmp rfl) .nil) []|fail):p:=h x
theorem A7 (k:q) (h:ZQ q→p:=by intro zk;first|((first|(refine ZAL ?_;first|refine uA ?_|refine uK (c1) ?_)|refine uC ?_);exact zk.1)|fail):p:=h ⟨k⟩
theorem A8 {c q1 q2 q3:Prop} (x:c) (k1:q1) (k2:q2) (k3:q3) (h:c→ZQ q1→ZQ q2→ZQ q3→p:=by intro x z1 z2 z3;first|exact Fin.mkv (rs:=_) x (.cons (.tmp rfl) .nil) [] (by decide) rfl z1.1 z2.1 z3.1|fail):p:=h x ⟨k1⟩ ⟨k2⟩ ⟨k3⟩
theorem A9 {c:Prop} (x:c) (h:c→p:=by intro x;first|(exfalso;omega)|((first|exact Fin.q x .nil []|refine Fin.q x .nil [] (hr:=(.tupL .nil))|refine Fin.mkv (rs:=_) x .nil [] (by decide) rfl ?_ ?_ ?_<;>repeat' (first|exact ZE1|refine ZE2 ?_ ?_|refine ZE3 ?_|exact ZE4|fail)))|fail):p:=h x
theorem Aa {c:Prop} (x:c) (h:c→p:=by intro x;first|(exfalso;omega)|(exact Fin.q x (.cons (.agg rfl rfl ud53 rfl inf53 (us:=[_,_,_,_]) rfl rfl) .nil) [])|fail):p:=h x
theorem Ab {c:Prop} (x:c) (h:c→p:=by intro x;first|exact Fin.q x (.cons (.tmp rfl) .nil) [0]|fail):p:=h x
theorem Ac (k:q) (h:ZQ q→p:=by intro zk;first|(refine ZEN Tryz.func60 Tryz.ntmps60 ?_;exact zk.1)|fail):p:=h ⟨k⟩
theorem Ad (k:q) (h:ZQ q→p:=by intro zk;first|(refine ZEN Tryz.func51 Tryz.ntmps51 ?_;exact zk.1)|fail):p:=h ⟨k⟩
theorem Ae (k:q) (h:ZQ q→p:=by intro zk;first|((refine kL 12 rfl ?_;first|refine A_append_nlsub rfl rfl _ _ 39 rfl ud39 inf46 rfl rfl rfl rfl aJ qB qB iU.symm (.push qL qN) ?_);exact zk.1)|fail):p:=h ⟨k⟩
theorem Af (k:q) (h:ZQ q→p:=by intro zk;first|((refine kR 1263 rfl ?_;first|refine R_lit rfl rfl 39 1 _ rfl ud39 inf46 (.cons rfl .nil) (els:=[[_]]) rfl bF rfl (gB rfl) (ZbT rfl) (ZbT rfl) qh qN ?_);exact zk.1)|fail):p:=h ⟨k⟩
theorem Ag (k:q) (h:ZQ q→p:=by intro zk;first|((refine kL 1481 rfl ?_;first|refine A_bits rfl rfl .and 46 46 _ _ rfl rfl rfl rfl (and_lit 32 (M:=4294967296) rfl rfl (by omega) (by omega) (by omega)) ?_|refine A_bits rfl rfl .and 46 46 _ _ rfl rfl rfl rfl rfl ?_);exact zk.1)|fail):p:=h ⟨k⟩
theorem Ah {c:Prop} (x:c) (h:c→p:=by intro x;first|(exfalso;omega)|(exact Fin.q x .nil [])|fail):p:=h x
theorem Ai (k:q) (h:ZQ q→p:=by intro zk;first|((first|(refine ZAL ?_;first|refine uA ?_|refine uK (c1) ?_|refine uK (c2) ?_)|refine uC ?_);exact zk.1)|fail):p:=h ⟨k⟩
theorem Aj {c q1:Prop} (x:c) (k1:q1) (h:c→ZQ q1→p:=by intro x z1;first|exact Fin.q x (.cons (.tmp rfl) .nil) [0] (hr:=(.t z1.1))|fail):p:=h x ⟨k1⟩
theorem Ak {c q1 q2 q3:Prop} (x:c) (k1:q1) (k2:q2) (k3:q3) (h:c→ZQ q1→ZQ q2→ZQ q3→p:=by intro x z1 z2 z3;first|exact Fin.mkv (rs:=_) x (.cons (.tmp rfl) .nil) [0] (by decide) rfl z1.1 z2.1 z3.1|fail):p:=h x ⟨k1⟩ ⟨k2⟩ ⟨k3⟩
theorem Al (k:q) (h:ZQ q→p:=by intro zk;first|((first|(refine ZAL ?_;first|refine uA ?_|refine uI [0] (c1) ?_)|refine uC ?_);exact zk.1)|fail):p:=h ⟨k⟩
theorem Am (k:q) (h:ZQ q→p:=by intro zk;first|((first|(refine ZAL ?_;first|refine uA ?_|refine uV (c1) ?_)|refine uC ?_);exact zk.1)|fail):p:=h ⟨k⟩
theorem Ao (k:q) (h:ZQ q→p:=by intro zk;first|(refine ZEN Tryz.func86 Tryz.ntmps86 ?_;exact zk.1)|fail):p:=h ⟨k⟩
theorem Ap (k:q) (h:ZQ q→p:=by intro zk;first|((first|(refine ZAL ?_;first|refine uA ?_|refine uI [8,0,1,2,3] (c1) ?_)|(refine ZRG ?_;first|refine uR ?_|refine uJ [0,1,2,3] (c0) ?_|refine AT (ct) ?_)|refine uC ?_|(first|refine AW.drawU (id:=1) mixed 0 qR ?_|refine AW.drawU (id:=23) mixed 0 qR ?_));exact zk.1)|fail):p:=h ⟨k⟩
theorem Aq {c:Prop} (x:c) (h:c→p:=by intro x;first|(exfalso;omega)|((first|exact Fin.q x (.cons (.agg rfl rfl ud55 rfl inf55 (us:=[_,_,_,_,_,_,_,_,_,_,_,_,_,_,_,_,_,_,_,_,_,_,_,_,_,_,_,_,_,_,_,_,_,_]) rfl rfl) (.cons (.agg rfl rfl ud152 rfl inf152 (us:=[_,_,_]) rfl rfl) .nil)) []|refine Fin.q x (.cons (.agg rfl rfl ud55 rfl inf55 (us:=[_,_,_,_,_,_,_,_,_,_,_,_,_,_,_,_,_,_,_,_,_,_,_,_,_,_,_,_,_,_,_,_,_,_]) rfl rfl) (.cons (.agg rfl rfl ud152 rfl inf152 (us:=[_,_,_]) rfl rfl) .nil)) [] (hr:=(.tupL (.cons (.t ?_) (.cons (.t ?_) .nil))))|refine Fin.mkv (rs:=_) x (.cons (.agg rfl rfl ud55 rfl inf55 (us:=[_,_,_,_,_,_,_,_,_,_,_,_,_,_,_,_,_,_,_,_,_,_,_,_,_,_,_,_,_,_,_,_,_,_]) rfl rfl) (.cons (.agg rfl rfl ud152 rfl inf152 (us:=[_,_,_]) rfl rfl) .nil)) [] (by decide) rfl ?_ ?_ ?_<;>repeat' (first|exact ZE1|refine ZE2 ?_ ?_|refine ZE3 ?_|exact ZE4|fail)))|fail):p:=h x
theorem As (k:q) (h:ZQ q→p:=by intro zk;first|((first|(refine ZAL ?_;first|(refine kL 3146 rfl ?_;first|(refine uK (inR_t ?zq0) ?_;(case zq0=>assumption))|(refine uK (inR_f ?zq0) ?_;(case zq0=>assumption)))|refine uA ?_)|refine uC ?_);exact zk.1)|fail):p:=h ⟨k⟩
theorem Au (k:q) (h:ZQ q→p:=by intro zk;first|(refine ZEN Tryz.func123 Tryz.ntmps123 ?_;exact zk.1)|fail):p:=h ⟨k⟩
theorem Av (k:q) (h:ZQ q→p:=by intro zk;first|((refine kL 1263 rfl ?_;first|refine A_lit rfl rfl 39 1 _ rfl ud39 inf46 (.cons rfl .nil) (els:=[[_]]) rfl bF rfl (gB rfl) (ZbT rfl) (ZbT rfl) (.push qL qN) ?_);exact zk.1)|fail):p:=h ⟨k⟩
theorem Aw (k:q) (h:ZQ q→p:=by intro zk;first|(refine ZEN Tryz.func128 Tryz.ntmps128 ?_;exact zk.1)|fail):p:=h ⟨k⟩
theorem Ax (k:q) (h:ZQ q→p:=by intro zk;first|(refine ZEN Tryz.func130 Tryz.ntmps130 ?_;exact zk.1)|fail):p:=h ⟨k⟩
theorem Ay (k:q) (h:ZQ q→p:=by intro zk;first|(refine ZEN Tryz.func36 Tryz.ntmps36 ?_;exact zk.1)|fail):p:=h ⟨k⟩
theorem Az (k:q) (h:ZQ q→p:=by intro zk;first|((first|(refine ZAL ?_;first|refine Bl ?_|refine uA ?_)|refine uR ?_|refine uC ?_|refine AW.drawU (id:=35) mixed 2 qR ?_);exact zk.1)|fail):p:=h ⟨k⟩
theorem B0 (k:q) (h:ZQ q→p:=by intro zk;first|(refine ZEN Tryz.func127 Tryz.ntmps127 ?_;exact zk.1)|fail):p:=h ⟨k⟩
theorem B1 {c:Prop} (x:c) (h:c→p:=by intro x;first|(exfalso;omega)|((first|exact Fin.q x (.cons (.tmp rfl) (.cons (.tmp rfl) (.cons (.tmp rfl) .nil))) []|refine Fin.q x (.cons (.tmp rfl) (.cons (.tmp rfl) (.cons (.tmp rfl) .nil))) [] (hr:=(.tupL (.cons (.t ?_) (.cons (.t ?_) (.cons (.t ?_) .nil)))))|refine Fin.mkv (rs:=_) x (.cons (.tmp rfl) (.cons (.tmp rfl) (.cons (.tmp rfl) .nil))) [] (by decide) rfl ?_ ?_ ?_<;>repeat' (first|exact ZE1|refine ZE2 ?_ ?_|refine ZE3 ?_|exact ZE4|fail)))|fail):p:=h x
theorem B2 (k:q) (h:ZQ q→p:=by intro zk;first|((first|(refine ZAL ?_;first|refine Ek ?_|refine uA ?_|refine uI [0,1,2,3,4,5,6,7,8,9,10] (c1) ?_|refine uI [0,1,2,3,4,5,6,7,8,9,10] (c3) ?_)|(refine ZRG ?_;first|refine El ?_|refine Em ?_|refine En ?_|refine Eo ?_|refine Ep ?_|refine Eq ?_|refine Er ?_|refine uR ?_|refine uJ [1,2,3,4] (c2) ?_)|refine uC ?_|refine Db ?_);exact zk.1)|fail):p:=h ⟨k⟩
theorem B3 {c:Prop} (x:c) (h:c→p:=by intro x;first|(exfalso;omega)|((first|exact Fin.q x (.cons (.tmp rfl) (.cons (.tmp rfl) .nil)) []|refine Fin.q x (.cons (.tmp rfl) (.cons (.tmp rfl) .nil)) [] (hr:=(.tupL (.cons (.t ?_) (.cons (.t ?_) .nil))))|refine Fin.mkv (rs:=_) x (.cons (.tmp rfl) (.cons (.tmp rfl) .nil)) [] (by decide) rfl ?_ ?_ ?_<;>repeat' (first|exact ZE1|refine ZE2 ?_ ?_|refine ZE3 ?_|exact ZE4|fail)))|fail):p:=h x
theorem B4 (k:q) (h:ZQ q→p:=by intro zk;first|((refine kL 12 rfl ?_;first|refine A_append_nlsub rfl rfl _ _ 86 rfl ud86 inf55 rfl rfl rfl rfl aJ qB qB iU.symm (.push qL qN) ?_);exact zk.1)|fail):p:=h ⟨k⟩
theorem B5 (k:q) (h:ZQ q→p:=by intro zk;first|((refine kL 2767 rfl ?_;first|refine A_lit rfl rfl 86 1 _ rfl ud86 inf55 (.cons rfl .nil) (els:=[[_,_,_,_,_,_,_,_,_,_,_,_,_,_,_,_,_,_,_,_,_,_,_,_,_,_,_,_,_,_,_,_,_,_]]) rfl bF rfl (gB rfl) (ZbT rfl) (ZbT rfl) (.push qL qN) ?_);exact zk.1)|fail):p:=h ⟨k⟩
theorem B6 (k:q) (h:ZQ q→p:=by intro zk;first|((first|refine uA ?_|refine uC ?_|rfl);exact zk.1)|fail):p:=h ⟨k⟩
theorem B7 (k:q) (h:ZQ q→p:=by intro zk;first|(refine ZEN Tryz.func277 Tryz.ntmps277 ?_;exact zk.1)|fail):p:=h ⟨k⟩
theorem B8 (k:q) (h:ZQ q→p:=by intro zk;first|(refine ZEN Tryz.func250 Tryz.ntmps250 ?_;exact zk.1)|fail):p:=h ⟨k⟩
theorem B9 (k:q) (h:ZQ q→p:=by intro zk;first|((first|(refine ZAL ?_;first|(refine kL 3146 rfl ?_;first|(refine uK (inR_t ?zq0) ?_;(case zq0=>assumption)))|refine uA ?_)|refine uC ?_);exact zk.1)|fail):p:=h ⟨k⟩
theorem Bb (k:q) (h:ZQ q→p:=by intro zk;first|((first|refine AW.drawU (id:=3) mixed 0 qR ?_|refine AW.drawU (id:=12) mixed 0 qR ?_|refine AW.drawU (id:=18) mixed 0 qR ?_|refine AW.drawU (id:=22) mixed 0 qR ?_);exact zk.1)|fail):p:=h ⟨k⟩
theorem Bc {c:Prop} (x:c) (h:c→p:=by intro x;first|(exfalso;omega)|((first|exact Fin.q x (.cons (.agg rfl rfl ud45 rfl inf45 (us:=[_,_]) rfl rfl) (.cons (.tmp rfl) .nil)) []|refine Fin.q x (.cons (.agg rfl rfl ud45 rfl inf45 (us:=[_,_]) rfl rfl) (.cons (.tmp rfl) .nil)) [] (hr:=(.tupL (.cons (.t ?_) (.cons (.t ?_) .nil))))|refine Fin.mkv (rs:=_) x (.cons (.agg rfl rfl ud45 rfl inf45 (us:=[_,_]) rfl rfl) (.cons (.tmp rfl) .nil)) [] (by decide) rfl ?_ ?_ ?_<;>repeat' (first|exact ZE1|refine ZE2 ?_ ?_|refine ZE3 ?_|exact ZE4|fail)))|fail):p:=h x
theorem Be (k:q) (h:ZQ q→p:=by intro zk;first|((first|(refine ZAL ?_;first|refine uA ?_|refine uK (c1) ?_)|refine uR ?_|refine uC ?_|(first|refine AW.drawU (id:=20) mixed 0 qR ?_|refine AW.drawU (id:=21) mixed 0 qR ?_));exact zk.1)|fail):p:=h ⟨k⟩
theorem Bf (k:q) (h:ZQ q→p:=by intro zk;first|((first|(refine ZAL ?_;first|refine uA ?_|refine uI [0,1,2,3] (c1) ?_)|refine uC ?_);exact zk.1)|fail):p:=h ⟨k⟩
theorem Bh (k:q) (h:ZQ q→p:=by intro zk;first|((refine kL 12 rfl ?_;first|refine A_append_nlsub rfl rfl _ _ 41 rfl ud41 inf39 rfl rfl rfl rfl aJ qB qB iU.symm (.push qL qN) ?_);exact zk.1)|fail):p:=h ⟨k⟩
theorem Bi {c:Prop} (x:c) (h:c→p:=by intro x;first|exact Fin.q x (.cons (.agg rfl rfl ud53 rfl inf53 (us:=[_,_,_,_]) rfl rfl) .nil) []|fail):p:=h x
theorem Bj (k:q) (h:ZQ q→p:=by intro zk;first|(refine ZEN Tryz.func121 Tryz.ntmps121 ?_;exact zk.1)|fail):p:=h ⟨k⟩
theorem Bk (k:q) (h:ZQ q→p:=by intro zk;first|(refine ZEN Tryz.func292 Tryz.ntmps292 ?_;exact zk.1)|fail):p:=h ⟨k⟩
theorem Bl (k:q) (h:ZQ q→p:=by intro zk;first|((refine kL 5097 rfl ?_;first|refine A_shr rfl rfl 159 159 _ _ rfl rfl rfl (by decide) (fdiv_lit (m:=2) rfl (by decide)) ?_);exact zk.1)|fail):p:=h ⟨k⟩
theorem Bm (k:q) (h:ZQ q→p:=by intro zk;first|((first|(refine ZAL ?_;first|refine uA ?_|refine uK (cF) ?_)|refine uC ?_);exact zk.1)|fail):p:=h ⟨k⟩
theorem Bn (k:q) (h:ZQ q→p:=by intro zk;first|((refine kR 2991 rfl ?_;first|refine R_lit rfl rfl 93 1 _ rfl ud93 inf101 (.cons rfl .nil) (els:=[[_,_,_,_,_]]) rfl bF rfl (gB rfl) (ZbT rfl) (ZbT rfl) qh qN ?_);exact zk.1)|fail):p:=h ⟨k⟩
theorem Bo (k:q) (h:ZQ q→p:=by intro zk;first|((refine kR 3023 rfl ?_;first|refine R_lit rfl rfl 94 1 _ rfl ud94 inf167 (.cons rfl .nil) (els:=[[_,_,_,_]]) rfl bF rfl (gB rfl) (ZbT rfl) (ZbT rfl) qh qN ?_);exact zk.1)|fail):p:=h ⟨k⟩
theorem Bq (k:q) (h:ZQ q→p:=by intro zk;first|((first|refine AW.drawU (id:=7) mixed 4 qR ?_|refine AW.drawU (id:=11) mixed 4 qR ?_);exact zk.1)|fail):p:=h ⟨k⟩
theorem Br (k:q) (h:ZQ q→p:=by intro zk;first|(refine ZEN Tryz.func307 Tryz.ntmps307 ?_;exact zk.1)|fail):p:=h ⟨k⟩
theorem Bs (k:q) (h:ZQ q→p:=by intro zk;first|((refine kL 1263 rfl ?_;first|refine A_lit rfl rfl 39 1 _ rfl ud39 inf46 (.cons rfl .nil) (els:=[[_]]) rfl (by first|exact (rfl:_=List.map tU [_])|exact qN) rfl (gB rfl) (ZbT rfl) (ZbT rfl) (.push qL qN) ?_);exact zk.1)|fail):p:=h ⟨k⟩
theorem Bt (k:q) (h:ZQ q→p:=by intro zk;first|((refine kR 1519 rfl ?_;first|refine R_lit rfl rfl 47 1 _ rfl ud47 inf65 (.cons rfl .nil) (els:=[[_,_,_,_,_,_,_,_]]) rfl bF rfl (gB rfl) (ZbT rfl) (ZbT rfl) qh qN ?_);exact zk.1)|fail):p:=h ⟨k⟩
theorem Bu (k:q) (h:ZQ q→p:=by intro zk;first|(refine ZEN Tryz.func122 Tryz.ntmps122 ?_;exact zk.1)|fail):p:=h ⟨k⟩
theorem Bv {c q1 q2 q3:Prop} (x:c) (k1:q1) (k2:q2) (k3:q3) (h:c→ZQ q1→ZQ q2→ZQ q3→p:=by intro x z1 z2 z3;first|exact Fin.mkv (rs:=_) x (.cons (.agg rfl rfl ud125 rfl inf125 (us:=[_,_,_]) rfl rfl) .nil) [3,4] (by decide) rfl z1.1 z2.1 z3.1|fail):p:=h x ⟨k1⟩ ⟨k2⟩ ⟨k3⟩
theorem Bw (k:q) (h:ZQ q→p:=by intro zk;first|(refine ZEN Tryz.func194 Tryz.ntmps194 ?_;exact zk.1)|fail):p:=h ⟨k⟩
theorem Bx (k:q) (h:ZQ q→p:=by intro zk;first|(refine ZEN Tryz.func93 Tryz.ntmps93 ?_;exact zk.1)|fail):p:=h ⟨k⟩
theorem By (k:q) (h:ZQ q→p:=by intro zk;first|((first|(refine ZAL ?_;first|refine uA ?_|refine uI [0,1,2,3,4,5,6,7,8,9,10] (c1) ?_)|refine uC ?_);exact zk.1)|fail):p:=h ⟨k⟩
theorem Bz (k:q) (h:ZQ q→p:=by intro zk;first|((refine kR 1481 rfl ?_;first|refine R_shl rfl rfl 46 159 _ _ rfl rfl rfl (by decide) (shl_lit (m:=2) rfl bU) ?_|refine R_bits rfl rfl .or 46 46 _ _ rfl rfl rfl rfl (or_sum 1 (M:=2) rfl (by omega) (by omega) (by omega) (by omega) (by omega) (by omega)) ?_|refine R_bits rfl rfl .or 46 46 _ _ rfl rfl rfl rfl (or_sum' 1 (M:=2) rfl (by omega) (by omega) (by omega) (by omega) (by omega) (by omega)) ?_|refine R_bits rfl rfl .or 46 46 _ _ rfl rfl rfl rfl (or_sum 4 (M:=16) rfl (by omega) (by omega) (by omega) (by omega) (by omega) (by omega)) ?_|refine R_bits rfl rfl .or 46 46 _ _ rfl rfl rfl rfl (or_sum' 4 (M:=16) rfl (by omega) (by omega) (by omega) (by omega) (by omega) (by omega)) ?_|refine R_bits rfl rfl .or 46 46 _ _ rfl rfl rfl rfl (or_sum 32 (M:=4294967296) rfl (by omega) (by omega) (by omega) (by omega) (by omega) (by omega)) ?_|refine R_bits rfl rfl .or 46 46 _ _ rfl rfl rfl rfl (or_sum' 32 (M:=4294967296) rfl (by omega) (by omega) (by omega) (by omega) (by omega) (by omega)) ?_|refine R_shl rfl rfl 46 159 _ _ rfl rfl rfl (by decide) (shl_lit (m:=16) rfl bU) ?_|refine R_shl rfl rfl 46 159 _ _ rfl rfl rfl (by decide) (shl_lit (m:=4294967296) rfl bU) ?_|refine R_shl rfl rfl 46 159 _ _ rfl rfl rfl dL rfl ?_|refine R_bits rfl rfl .or 46 46 _ _ rfl rfl rfl rfl rfl ?_);exact zk.1)|fail):p:=h ⟨k⟩
theorem C0 (k:q) (h:ZQ q→p:=by intro zk;first|((refine kL 1327 rfl ?_;first|refine A_lit rfl rfl 41 1 _ rfl ud41 inf39 (.cons rfl .nil) (els:=[[_]]) rfl bF rfl (gB rfl) (ZbT rfl) (ZbT rfl) (.push qL qN) ?_);exact zk.1)|fail):p:=h ⟨k⟩
theorem C1 (k:q) (h:ZQ q→p:=by intro zk;first|((first|refine uA ?_|refine uR ?_|refine uC ?_|refine AW.drawU (id:=1) mixed 0 qR ?_);exact zk.1)|fail):p:=h ⟨k⟩
theorem C2 (k:q) (h:ZQ q→p:=by intro zk;first|(refine ZEN Tryz.func74 Tryz.ntmps74 ?_;exact zk.1)|fail):p:=h ⟨k⟩
theorem C3 (k:q) (h:ZQ q→p:=by intro zk;first|((first|refine AW.drawU (id:=5) mixed 6 qR ?_|refine AW.drawU (id:=11) mixed 6 qR ?_|refine AW.drawU (id:=14) mixed 4 qR ?_);exact zk.1)|fail):p:=h ⟨k⟩
theorem C4 {c:Prop} (x:c) (h:c→p:=by intro x;first|(exfalso;omega)|(exact Fin.q x (.cons (.tmp rfl) (.cons (.tmp rfl) .nil)) [])|fail):p:=h x
theorem C5 (k:q) (h:ZQ q→p:=by intro zk;first|(refine ZEN Tryz.func295 Tryz.ntmps295 ?_;exact zk.1)|fail):p:=h ⟨k⟩
theorem C6 {c:Prop} (x:c) (h:c→p:=by intro x;first|(exfalso;omega)|(exact Fin.q x (.cons (.agg rfl rfl ud97 rfl inf97 (us:=[_,_,_,_]) rfl rfl) (.cons (.tmp rfl) .nil)) [])|fail):p:=h x
theorem C7 (k:q) (h:ZQ q→p:=by intro zk;first|(refine ZEN Tryz.func268 Tryz.ntmps268 ?_;exact zk.1)|fail):p:=h ⟨k⟩
theorem C8 {c:Prop} (x:c) (h:c→p:=by intro x;first|(exfalso;omega)|(exact Fin.q x (.cons (.agg rfl rfl ud125 rfl inf125 (us:=[_,_,_]) rfl rfl) (.cons (.tmp rfl) .nil)) [])|fail):p:=h x
theorem C9 (k:q) (h:ZQ q→p:=by intro zk;first|(refine ZEN Tryz.func89 Tryz.ntmps89 ?_;exact zk.1)|fail):p:=h ⟨k⟩
theorem Ca (k:q) (h:ZQ q→p:=by intro zk;first|(refine ZEN Tryz.func248 Tryz.ntmps248 ?_;exact zk.1)|fail):p:=h ⟨k⟩
theorem Cb (k:q) (h:ZQ q→p:=by intro zk;first|(refine ZEN Tryz.func176 Tryz.ntmps176 ?_;exact zk.1)|fail):p:=h ⟨k⟩
theorem Cc (k:q) (h:ZQ q→p:=by intro zk;first|((first|(refine ZAL ?_;first|refine uA ?_|refine uK (c2) ?_)|refine uC ?_);exact zk.1)|fail):p:=h ⟨k⟩
theorem Ce (k:q) (h:ZQ q→p:=by intro zk;first|(refine ZEN Tryz.func124 Tryz.ntmps124 ?_;exact zk.1)|fail):p:=h ⟨k⟩
theorem Cf (k:q) (h:ZQ q→p:=by intro zk;first|(refine ZEN Tryz.func125 Tryz.ntmps125 ?_;exact zk.1)|fail):p:=h ⟨k⟩
theorem Cg (k:q) (h:ZQ q→p:=by intro zk;first|(refine ZEN Tryz.func126 Tryz.ntmps126 ?_;exact zk.1)|fail):p:=h ⟨k⟩
theorem Ch (k:q) (h:ZQ q→p:=by intro zk;first|(refine ZEN Tryz.func52 Tryz.ntmps52 ?_;exact zk.1)|fail):p:=h ⟨k⟩
theorem Ci (k:q) (h:ZQ q→p:=by intro zk;first|(refine ZEN Tryz.func53 Tryz.ntmps53 ?_;exact zk.1)|fail):p:=h ⟨k⟩
theorem Cj (k:q) (h:ZQ q→p:=by intro zk;first|(refine ZEN Tryz.func13 Tryz.ntmps13 ?_;exact zk.1)|fail):p:=h ⟨k⟩
theorem Ck (k:q) (h:ZQ q→p:=by intro zk;first|(refine ZEN Tryz.func33 Tryz.ntmps33 ?_;exact zk.1)|fail):p:=h ⟨k⟩
theorem Cl (k:q) (h:ZQ q→p:=by intro zk;first|((first|(refine ZAL ?_;first|refine uA ?_|refine uK (cP) ?_)|refine uC ?_);exact zk.1)|fail):p:=h ⟨k⟩
theorem Cm (k:q) (h:ZQ q→p:=by intro zk;first|((first|(refine ZAL ?_;first|refine uA ?_|refine uK (wcopy_c l hl) ?_|refine uK (cA) ?_)|refine uC ?_);exact zk.1)|fail):p:=h ⟨k⟩
theorem Cn (k:q) (h:ZQ q→p:=by intro zk;first|((first|(refine ZAL ?_;first|refine uA ?_|refine uK (cH) ?_)|refine uR ?_|refine uC ?_|refine AW.drawU (id:=5) mixed 0 qR ?_);exact zk.1)|fail):p:=h ⟨k⟩
theorem Co (k:q) (h:ZQ q→p:=by intro zk;first|((first|refine uA ?_|refine uR ?_|refine uC ?_|refine AW.drawU (id:=4) mixed 2 qR ?_);exact zk.1)|fail):p:=h ⟨k⟩
theorem Cp (k:q) (h:ZQ q→p:=by intro zk;first|((first|(refine ZAL ?_;first|refine Bl ?_|refine uA ?_)|refine uR ?_|refine uC ?_|refine AW.drawU (id:=5) mixed 2 qR ?_);exact zk.1)|fail):p:=h ⟨k⟩
theorem Cq (k:q) (h:ZQ q→p:=by intro zk;first|((first|(refine ZAL ?_;first|refine Bl ?_|refine uA ?_)|refine uR ?_|refine uC ?_|refine AW.drawU (id:=17) mixed 2 qR ?_);exact zk.1)|fail):p:=h ⟨k⟩
theorem Cr (k:q) (h:ZQ q→p:=by intro zk;first|((first|(refine ZAL ?_;first|refine Bl ?_|refine uA ?_)|refine uC ?_);exact zk.1)|fail):p:=h ⟨k⟩
theorem Cs (k:q) (h:ZQ q→p:=by intro zk;first|((first|(refine ZAL ?_;first|refine uA ?_|refine uI [0] (cM) ?_)|refine uC ?_);exact zk.1)|fail):p:=h ⟨k⟩
theorem Ct (k:q) (h:ZQ q→p:=by intro zk;first|((first|(refine ZAL ?_;first|refine uA ?_|(first|refine uK (c1) ?_|refine uK (c2) ?_))|refine uC ?_);exact zk.1)|fail):p:=h ⟨k⟩
theorem Cu (k:q) (h:ZQ q→p:=by intro zk;first|((refine kL 1263 rfl ?_;first|refine A_lit rfl rfl 39 1 _ rfl ud39 inf46 (.cons rfl .nil) (els:=[[_]]) rfl (by exact (rfl:_=List.map tU [_])) rfl (gB rfl) (ZbT rfl) (ZbT rfl) (.push qL qN) ?_);exact zk.1)|fail):p:=h ⟨k⟩
theorem Cv (k:q) (h:ZQ q→p:=by intro zk;first|((first|(refine ZAL ?_;first|refine uA ?_|refine uK (cB) ?_)|refine uC ?_);exact zk.1)|fail):p:=h ⟨k⟩
theorem Cw (k:q) (h:ZQ q→p:=by intro zk;first|((refine kL 12 rfl ?_;first|refine A_append_nlsub rfl rfl _ _ 30 rfl ud30 inf141 rfl rfl rfl rfl aJ qB qB iU.symm (.push qL qN) ?_);exact zk.1)|fail):p:=h ⟨k⟩
theorem Cx (k:q) (h:ZQ q→p:=by intro zk;first|((refine kL 1481 rfl ?_;first|refine A_bits rfl rfl .and 46 46 _ _ rfl rfl rfl rfl (and_lit 8 (M:=256) rfl rfl (by omega) (by omega) (by omega)) ?_|refine A_shr rfl rfl 46 159 _ _ rfl rfl rfl (by decide) (fdiv_lit (m:=65536) rfl (by decide)) ?_|refine A_bits rfl rfl .and 46 46 _ _ rfl rfl rfl rfl (and_lit 16 (M:=65536) rfl rfl (by omega) (by omega) (by omega)) ?_|refine A_shr rfl rfl 46 159 _ _ rfl rfl rfl (by decide) (fdiv_lit (m:=4294967296) rfl (by decide)) ?_|refine A_shr rfl rfl 46 159 _ _ rfl rfl rfl (by decide) (fdiv_lit (m:=4096) rfl (by decide)) ?_|refine A_bits rfl rfl .and 46 46 _ _ rfl rfl rfl rfl (and_lit 1 (M:=2) rfl rfl (by omega) (by omega) (by omega)) ?_|refine A_shr rfl rfl 46 159 _ _ rfl rfl rfl (by decide) (fdiv_lit (m:=256) rfl (by decide)) ?_|refine A_bits rfl rfl .and 46 46 _ _ rfl rfl rfl rfl rfl ?_|refine A_shr rfl rfl 46 159 _ _ rfl rfl rfl dL rfl ?_);exact zk.1)|fail):p:=h ⟨k⟩
theorem Cy (k:q) (h:ZQ q→p:=by intro zk;first|((refine kL 1481 rfl ?_;first|refine A_shl rfl rfl 46 159 _ _ rfl rfl rfl (by decide) (shl_lit (m:=256) rfl bU) ?_|refine A_bits rfl rfl .or 46 46 _ _ rfl rfl rfl rfl (or_sum 8 (M:=256) rfl (by omega) (by omega) (by omega) (by omega) (by omega) (by omega)) ?_|refine A_bits rfl rfl .or 46 46 _ _ rfl rfl rfl rfl (or_sum' 8 (M:=256) rfl (by omega) (by omega) (by omega) (by omega) (by omega) (by omega)) ?_|refine A_bits rfl rfl .or 46 46 _ _ rfl rfl rfl rfl (or_sum 16 (M:=65536) rfl (by omega) (by omega) (by omega) (by omega) (by omega) (by omega)) ?_|refine A_bits rfl rfl .or 46 46 _ _ rfl rfl rfl rfl (or_sum' 16 (M:=65536) rfl (by omega) (by omega) (by omega) (by omega) (by omega) (by omega)) ?_|refine A_bits rfl rfl .or 46 46 _ _ rfl rfl rfl rfl (or_sum 32 (M:=4294967296) rfl (by omega) (by omega) (by omega) (by omega) (by omega) (by omega)) ?_|refine A_bits rfl rfl .or 46 46 _ _ rfl rfl rfl rfl (or_sum' 32 (M:=4294967296) rfl (by omega) (by omega) (by omega) (by omega) (by omega) (by omega)) ?_|refine A_shl rfl rfl 46 159 _ _ rfl rfl rfl (by decide) (shl_lit (m:=65536) rfl bU) ?_|refine A_shl rfl rfl 46 159 _ _ rfl rfl rfl (by decide) (shl_lit (m:=4294967296) rfl bU) ?_|refine A_shl rfl rfl 46 159 _ _ rfl rfl rfl dL rfl ?_|refine A_bits rfl rfl .or 46 46 _ _ rfl rfl rfl rfl rfl ?_);exact zk.1)|fail):p:=h ⟨k⟩
theorem Cz (k:q) (h:ZQ q→p:=by intro zk;first|((refine kL 975 rfl ?_;first|refine A_lit rfl rfl 30 1 _ rfl ud30 inf141 (.cons rfl .nil) (els:=[[_,_,_]]) rfl bF rfl (gB rfl) (ZbT rfl) (ZbT rfl) (.push qL qN) ?_);exact zk.1)|fail):p:=h ⟨k⟩
theorem D1 (k:q) (h:ZQ q→p:=by intro zk;first|((refine kR 1481 rfl ?_;first|refine R_shr rfl rfl 46 159 _ _ rfl rfl rfl (by decide) (fdiv_lit (m:=256) rfl (by decide)) ?_|refine R_bits rfl rfl .and 46 46 _ _ rfl rfl rfl rfl (and_lit 4 (M:=16) rfl rfl (by omega) (by omega) (by omega)) ?_|refine R_shr rfl rfl 46 159 _ _ rfl rfl rfl dL rfl ?_|refine R_bits rfl rfl .and 46 46 _ _ rfl rfl rfl rfl rfl ?_);exact zk.1)|fail):p:=h ⟨k⟩
theorem D2 (k:q) (h:ZQ q→p:=by intro zk;first|((first|((with_reducible refine kAW ?_);refine ufB 6 0 ?_)|refine uA ?_|(refine ZRG ?_;first|refine Af ?_|refine uR ?_|refine uJ1 0 [1,2,3,4] (cn) ?_|refine uJ1 0 [1,2,3,4] (c1) ?_|refine AT (cc) ?_|refine uJ1 0 [1,2,3,4] (cs) ?_|refine uJ [0,1,2,3,4] (cd) ?_)|refine uC ?_|refine Fy ?_);exact zk.1)|fail):p:=h ⟨k⟩
theorem D3 (k:q) (h:ZQ q→p:=by intro zk;first|((first|refine AW.drawU (id:=2) mixed 0 qR ?_|refine AW.drawU (id:=3) mixed 0 qR ?_|refine AW.drawU (id:=7) mixed 2 qR ?_|refine AW.drawU (id:=13) mixed 0 qR ?_|refine AW.drawU (id:=14) mixed 2 qR ?_);exact zk.1)|fail):p:=h ⟨k⟩
theorem D4 (k:q) (h:ZQ q→p:=by intro zk;first|((first|refine AW.drawU (id:=2) mixed 0 qR ?_|refine AW.drawU (id:=6) mixed 0 qR ?_|refine AW.drawU (id:=11) mixed 0 qR ?_|refine AW.drawU (id:=14) mixed 0 qR ?_);exact zk.1)|fail):p:=h ⟨k⟩
theorem D5 (k:q) (h:ZQ q→p:=by intro zk;first|((first|refine AW.drawU (id:=0) mixed 0 qR ?_|refine AW.drawU (id:=3) mixed 0 qR ?_|refine AW.drawU (id:=8) mixed 0 qR ?_|refine AW.drawU (id:=12) mixed 0 qR ?_|refine AW.drawU (id:=16) mixed 0 qR ?_);exact zk.1)|fail):p:=h ⟨k⟩
theorem D6 (k:q) (h:ZQ q→p:=by intro zk;first|((first|refine AW.drawU (id:=4) mixed 0 qR ?_|refine AW.drawU (id:=6) mixed 0 qR ?_|refine AW.drawU (id:=9) mixed 0 qR ?_|refine AW.drawU (id:=10) mixed 0 qR ?_|refine AW.drawU (id:=12) mixed 0 qR ?_|refine AW.drawU (id:=20) mixed 0 qR ?_|refine AW.drawU (id:=23) mixed 2 qR ?_|refine AW.drawU (id:=25) mixed 0 qR ?_|refine AW.drawU (id:=26) mixed 0 qR ?_);exact zk.1)|fail):p:=h ⟨k⟩
theorem D7 (k:q) (h:ZQ q→p:=by intro zk;first|((first|(refine ZAL ?_;first|refine uA ?_|refine uI [0,1,2,3,4] (c2) ?_|refine uI [0,1,2,3,4] (c1) ?_|refine uK (ce) ?_)|(refine ZRG ?_;first|refine Af ?_|refine uR ?_|refine AT (ce) ?_|refine AT (cn) ?_)|refine uC ?_|refine D6 ?_);exact zk.1)|fail):p:=h ⟨k⟩
theorem D8 (k:q) (h:ZQ q→p:=by intro zk;first|((first|refine AW.drawU (id:=3) mixed 0 qR ?_|refine AW.drawU (id:=6) mixed 0 qR ?_|refine AW.drawU (id:=9) mixed 0 qR ?_|refine AW.drawU (id:=12) mixed 0 qR ?_);exact zk.1)|fail):p:=h ⟨k⟩
theorem D9 {c:Prop} (x:c) (h:c→p:=by intro x;first|(exfalso;omega)|((first|exact Fin.q x (.cons (.agg rfl rfl ud145 rfl inf145 (us:=[_,_,_,_,_,_,_]) rfl rfl) (.cons (.tmp rfl) .nil)) []|refine Fin.q x (.cons (.agg rfl rfl ud145 rfl inf145 (us:=[_,_,_,_,_,_,_]) rfl rfl) (.cons (.tmp rfl) .nil)) [] (hr:=(.tupL (.cons (.t ?_) (.cons (.t ?_) .nil))))|refine Fin.mkv (rs:=_) x (.cons (.agg rfl rfl ud145 rfl inf145 (us:=[_,_,_,_,_,_,_]) rfl rfl) (.cons (.tmp rfl) .nil)) [] (by decide) rfl ?_ ?_ ?_<;>repeat' (first|exact ZE1|refine ZE2 ?_ ?_|refine ZE3 ?_|exact ZE4|fail)))|fail):p:=h x
theorem Da (k:q) (h:ZQ q→p:=by intro zk;first|((first|(refine ZAL ?_;first|refine uA ?_|refine uK (c1) ?_)|refine uR ?_|refine uC ?_|(first|refine AW.drawU (id:=2) mixed 0 qR ?_|refine AW.drawU (id:=5) mixed 0 qR ?_));exact zk.1)|fail):p:=h ⟨k⟩
theorem Db (k:q) (h:ZQ q→p:=by intro zk;first|((first|refine AW.drawU (id:=7) mixed 0 qR ?_|refine AW.drawU (id:=8) mixed 2 qR ?_|refine AW.drawU (id:=9) mixed 0 qR ?_|refine AW.drawU (id:=11) mixed 2 qR ?_|refine AW.drawU (id:=15) mixed 0 qR ?_);exact zk.1)|fail):p:=h ⟨k⟩
theorem Dc (k:q) (h:ZQ q→p:=by intro zk;first|((first|(refine ZAL ?_;first|refine Ek ?_|refine uA ?_|refine uI [0,1,2,3,4,5,6,7,8,9,10] (c1) ?_)|(refine ZRG ?_;first|refine El ?_|refine Em ?_|refine En ?_|refine Eo ?_|refine Ep ?_|refine Eq ?_|refine Er ?_|refine uR ?_|refine uJ [1,2,3,4] (c2) ?_)|refine uC ?_|refine Db ?_);exact zk.1)|fail):p:=h ⟨k⟩
theorem Dd (k:q) (h:ZQ q→p:=by intro zk;first|((first|(refine ZAL ?_;first|refine Ek ?_|refine uA ?_|refine uI [0,1,2,3,4,5,6,7,8,9,10] (c1) ?_|refine uI [0,1,2,3,4,5,6,7,8,9,10] (c3) ?_)|(refine ZRG ?_;first|refine El ?_|refine Em ?_|refine En ?_|refine Eo ?_|refine Ep ?_|refine Eq ?_|refine Er ?_|refine uR ?_|refine uJ [1,2,3,4] (c2) ?_|refine AT (cg) ?_)|refine uC ?_|refine Db ?_);exact zk.1)|fail):p:=h ⟨k⟩
theorem De (k:q) (h:ZQ q→p:=by intro zk;first|((first|refine AW.drawU (id:=7) mixed 6 qR ?_|refine AW.drawU (id:=12) mixed 4 qR ?_);exact zk.1)|fail):p:=h ⟨k⟩
theorem Df (k:q) (h:ZQ q→p:=by intro zk;first|((refine kR 1263 rfl ?_;first|refine R_lit rfl rfl 39 1 _ rfl ud39 inf46 (.cons rfl .nil) (els:=[[_]]) rfl (by first|exact (rfl:_=List.map tU [_])|exact qN) rfl (gB rfl) (ZbT rfl) (ZbT rfl) qh qN ?_);exact zk.1)|fail):p:=h ⟨k⟩
theorem Dg (k:q) (h:ZQ q→p:=by intro zk;first|((first|(refine ZAL ?_;first|refine uA ?_|refine uI [0,1,2,3,4,5,6,7,8,9,10] (c1) ?_|refine uK (c2) ?_)|refine uC ?_);exact zk.1)|fail):p:=h ⟨k⟩
theorem Dh (k:q) (h:ZQ q→p:=by intro zk;first|((first|(refine ZAL ?_;first|refine B4 ?_|refine B5 ?_|refine uA ?_)|refine uR ?_|refine uC ?_|refine AW.drawU (id:=20) mixed 0 qR ?_);exact zk.1)|fail):p:=h ⟨k⟩
theorem Di {c:Prop} (x:c) (h:c→p:=by intro x;first|exact Fin.q x (.cons (.agg rfl rfl ud32 rfl inf32 (us:=[_,_,_,_,_]) rfl rfl) (.cons (.tmp rfl) .nil)) []|fail):p:=h x
theorem Dj {c q1 q2:Prop} (x:c) (k1:q1) (k2:q2) (h:c→ZQ q1→ZQ q2→p:=by intro x z1 z2;first|exact Fin.q x (.cons (.agg rfl rfl ud32 rfl inf32 (us:=[_,_,_,_,_]) rfl rfl) (.cons (.tmp rfl) .nil)) [] (hr:=(.tupL (.cons (.t z1.1) (.cons (.t z2.1) .nil))))|fail):p:=h x ⟨k1⟩ ⟨k2⟩
theorem Dk {c q1 q2 q3:Prop} (x:c) (k1:q1) (k2:q2) (k3:q3) (h:c→ZQ q1→ZQ q2→ZQ q3→p:=by intro x z1 z2 z3;first|exact Fin.mkv (rs:=_) x (.cons (.agg rfl rfl ud32 rfl inf32 (us:=[_,_,_,_,_]) rfl rfl) (.cons (.tmp rfl) .nil)) [] (by decide) rfl z1.1 z2.1 z3.1|fail):p:=h x ⟨k1⟩ ⟨k2⟩ ⟨k3⟩
theorem Dm {c:Prop} (x:c) (h:c→p:=by intro x;first|exact Fin.q x (.cons (.agg rfl rfl ud32 rfl inf32 (us:=[_,_,_,_,_]) rfl rfl) (.cons (.tmp rfl) .nil)) [2]|fail):p:=h x
theorem Dn {c q1 q2:Prop} (x:c) (k1:q1) (k2:q2) (h:c→ZQ q1→ZQ q2→p:=by intro x z1 z2;first|exact Fin.q x (.cons (.agg rfl rfl ud32 rfl inf32 (us:=[_,_,_,_,_]) rfl rfl) (.cons (.tmp rfl) .nil)) [2] (hr:=(.tupL (.cons (.t z1.1) (.cons (.t z2.1) .nil))))|fail):p:=h x ⟨k1⟩ ⟨k2⟩
theorem Dp {c q1 q2 q3:Prop} (x:c) (k1:q1) (k2:q2) (k3:q3) (h:c→ZQ q1→ZQ q2→ZQ q3→p:=by intro x z1 z2 z3;first|exact Fin.mkv (rs:=_) x (.cons (.agg rfl rfl ud32 rfl inf32 (us:=[_,_,_,_,_]) rfl rfl) (.cons (.tmp rfl) .nil)) [2] (by decide) rfl z1.1 z2.1 z3.1|fail):p:=h x ⟨k1⟩ ⟨k2⟩ ⟨k3⟩
theorem Dq {c q1 q2 q3:Prop} (x:c) (k1:q1) (k2:q2) (k3:q3) (h:c→ZQ q1→ZQ q2→ZQ q3→p:=by intro x z1 z2 z3;first|exact Fin.mkv (rs:=_) x (.cons (.agg rfl rfl ud53 rfl inf53 (us:=[_,_,_,_]) rfl rfl) .nil) [] (by decide) rfl z1.1 z2.1 z3.1|fail):p:=h x ⟨k1⟩ ⟨k2⟩ ⟨k3⟩
theorem Dr (k:q) (h:ZQ q→p:=by intro zk;first|((refine kL 719 rfl ?_;first|refine A_lit rfl rfl 22 1 _ rfl ud22 inf3 (.cons rfl .nil) (els:=[[_]]) rfl (by exact (rfl:_=List.map tI [_])) rfl (gB rfl) (ZbT rfl) (ZbT rfl) (.push qL qN) ?_);exact zk.1)|fail):p:=h ⟨k⟩
theorem Dt (k:q) (h:ZQ q→p:=by intro zk;first|((refine kL 12 rfl ?_;first|refine A_append_nlsub rfl rfl _ _ 22 rfl ud22 inf3 rfl rfl rfl rfl aJ qB qB iU.symm (.push qL qN) ?_);exact zk.1)|fail):p:=h ⟨k⟩
theorem Du (k:q) (h:ZQ q→p:=by intro zk;first|((first|(refine ZAL ?_;first|refine uA ?_|refine uI [0,1,2,3,4] (c2) ?_)|(refine ZRG ?_;first|refine uR ?_|refine AT (c1) ?_)|refine uC ?_|refine AW.drawU (id:=0) mixed 3 qR ?_);exact zk.1)|fail):p:=h ⟨k⟩
theorem Dv {c:Prop} (x:c) (h:c→p:=by intro x;first|(exfalso;omega)|(exact Fin.q x (.cons (.tmp rfl) (.cons (.tmp rfl) .nil)) [1])|fail):p:=h x
theorem Dw {c:Prop} (x:c) (h:c→p:=by intro x;first|(exfalso;omega)|(exact Fin.q x (.cons (.tmp rfl) (.cons (.tmp rfl) .nil)) [0])|fail):p:=h x
theorem Dx {c:Prop} (x:c) (h:c→p:=by intro x;first|(exfalso;omega)|(exact Fin.q x (.cons (.tmp rfl) (.cons (.tmp rfl) (.cons (.tmp rfl) .nil))) [])|fail):p:=h x
theorem Dy (k:q) (h:ZQ q→p:=by intro zk;first|((first|refine uA ?_|refine uR ?_|refine uC ?_|refine AW.drawU (id:=3) mixed 0 qR ?_);exact zk.1)|fail):p:=h ⟨k⟩
theorem Dz (k:q) (h:ZQ q→p:=by intro zk;first|((first|(refine ZAL ?_;first|refine uA ?_|refine uK (cF) ?_|refine uK (cR) ?_|refine uK (hcc) ?_|refine uK (cW) ?_)|refine uC ?_);exact zk.1)|fail):p:=h ⟨k⟩
theorem E0 {c:Prop} (x:c) (h:c→p:=by intro x;first|(exfalso;omega)|(exact Fin.q x (.cons (.agg rfl rfl ud101 rfl inf101 (us:=[_,_,_,_,_]) rfl rfl) (.cons (.tmp rfl) (.cons (.agg rfl rfl ud53 rfl inf53 (us:=[_,_,_,_]) rfl rfl) (.cons (.tmp rfl) .nil)))) [3,4])|fail):p:=h x
theorem E1 {c:Prop} (x:c) (h:c→p:=by intro x;first|(exfalso;omega)|(exact Fin.q x (.cons (.agg rfl rfl ud101 rfl inf101 (us:=[_,_,_,_,_]) rfl rfl) (.cons (.tmp rfl) (.cons (.agg rfl rfl ud53 rfl inf53 (us:=[_,_,_,_]) rfl rfl) (.cons (.tmp rfl) .nil)))) [])|fail):p:=h x
theorem E2 (k:q) (h:ZQ q→p:=by intro zk;first|((first|(refine ZAL ?_;first|refine uA ?_|refine uK (hs) ?_)|(refine ZRG ?_;first|(refine kR 8970 rfl ?_;first|(refine uQ (clone_R d ?zq0) 3 ?_;(case zq0=>omega)))|refine uR ?_)|refine uC ?_|refine AW.drawU (id:=1) mixed 3 qR ?_);exact zk.1)|fail):p:=h ⟨k⟩
theorem E3 {c:Prop} (x:c) (h:c→p:=by intro x;first|exact Fin.q x (.cons (.agg rfl rfl ud125 rfl inf125 (us:=[_,_,_]) rfl rfl) .nil) [6,3]|fail):p:=h x
theorem E4 (k:q) (h:ZQ q→p:=by intro zk;first|((first|(refine ZAL ?_;first|refine uA ?_|refine uK (cA) ?_)|refine uC ?_);exact zk.1)|fail):p:=h ⟨k⟩
theorem E5 (k:q) (h:ZQ q→p:=by intro zk;first|((first|(refine ZAL ?_;first|refine Cu ?_|refine uA ?_)|refine uC ?_);exact zk.1)|fail):p:=h ⟨k⟩
theorem E6 (k:q) (h:ZQ q→p:=by intro zk;first|((first|(refine ZAL ?_;first|refine uA ?_|refine uK (c1) ?_)|(refine ZRG ?_;first|refine uR ?_|refine AT (c2) ?_)|refine uC ?_|refine AW.drawU (id:=2) mixed 0 qR ?_);exact zk.1)|fail):p:=h ⟨k⟩
theorem E7 (k:q) (h:ZQ q→p:=by intro zk;first|((first|(refine ZAL ?_;first|refine uA ?_|refine uK (c2) ?_|refine uK (c1) ?_)|refine uC ?_);exact zk.1)|fail):p:=h ⟨k⟩
theorem E8 (k:q) (h:ZQ q→p:=by intro zk;first|((first|(refine ZAL ?_;first|refine uA ?_|refine uI [0,1,2,3,4] (c2) ?_)|(refine ZRG ?_;first|refine Af ?_|refine Bt ?_|refine uR ?_|refine AT (ce) ?_|refine uJ1 0 [1,2,3,4] (c1) ?_|refine uJ1 0 [1,2,3,4] (cd) ?_)|refine uC ?_|refine D3 ?_);exact zk.1)|fail):p:=h ⟨k⟩
theorem E9 {c:Prop} (x:c) (h:c→p:=by intro x;first|exact Fin.q x (.cons (.agg rfl rfl ud125 rfl inf125 (us:=[_,_,_]) rfl rfl) .nil) []|fail):p:=h x
theorem Ea (k:q) (h:ZQ q→p:=by intro zk;first|((first|(refine ZAL ?_;first|refine uA ?_|refine uI [0,1,2,3,4] (c2) ?_|refine uK (cq) ?_)|(refine ZRG ?_;first|refine Af ?_|refine Bt ?_|refine uR ?_|refine AT (ce) ?_|refine uJ1 0 [1,2,3,4] (c1) ?_|refine AT (cc) ?_)|refine uC ?_|refine D3 ?_);exact zk.1)|fail):p:=h ⟨k⟩
theorem Eb (k:q) (h:ZQ q→p:=by intro zk;first|((first|(refine ZAL ?_;first|refine uA ?_|refine uI [0,1,2,3,4] (c2) ?_)|(refine ZRG ?_;first|refine uR ?_|refine AT (cd) ?_|refine AT (ce) ?_|refine uJ1 0 [1,2,3,4] (c1) ?_)|refine uC ?_|refine G1 ?_);exact zk.1)|fail):p:=h ⟨k⟩
theorem Ec (k:q) (h:ZQ q→p:=by intro zk;first|((first|(refine ZAL ?_;first|refine uA ?_|refine uI [0,1,2,3,4] (cn) ?_|refine uI [0,1,2,3,4] (c1) ?_)|(refine ZRG ?_;first|refine uR ?_|refine uJ1 0 [1,2,3,4] (c1) ?_)|refine uC ?_|refine G3 ?_);exact zk.1)|fail):p:=h ⟨k⟩
theorem Ed (k:q) (h:ZQ q→p:=by intro zk;first|((refine kL 1 rfl ?_;first|((first|refine A_as (d:=4) rfl rfl rfl rfl ?_|refine A_move (d:=4) rfl rfl _ (.inr rfl) (y:=.sl _ _ _) rfl ?_|refine A_move (d:=4) rfl rfl _ (.inr rfl) (y:=.nl) rfl ?_|refine A_move (d:=4) rfl rfl _ (.inr rfl) (y:=.ptr _ _) rfl ?_|refine A_move (d:=4) rfl rfl _ (.inr rfl) (y:=.ln _) rfl ?_|refine A_move (d:=4) rfl rfl _ (.inr rfl) (y:=.lp _) rfl ?_|refine A_move (d:=4) rfl rfl _ (.inr rfl) (y:=.fn _ _ _) rfl ?_|refine A_move (d:=4) rfl rfl _ (.inr rfl) (y:=.sub _ _ _ _) rfl ?_|refine A_move (d:=4) rfl rfl _ (.inr rfl) (y:=.rp _ _ _ _) rfl ?_|refine A_move (d:=4) rfl rfl _ (.inr rfl) (y:=.agg _) rfl ?_|refine A_move (d:=4) rfl rfl _ (.inr rfl) (y:=.tup _) rfl ?_|refine A_move (d:=4) rfl rfl _ (.inr rfl) (y:=.mv _) rfl ?_|refine A_move (d:=4) rfl rfl _ (.inr rfl) (y:=.cl _) rfl ?_);(try refine uz 4 ?_)));exact zk.1)|fail):p:=h ⟨k⟩
theorem Ee (k:q) (h:ZQ q→p:=by intro zk;first|((first|(refine ZAL ?_;first|refine uA ?_|refine uI [0,1,2,3,4] (c2) ?_)|(refine ZRG ?_;first|refine uR ?_|refine AT (cm) ?_|refine AT (cr) ?_|refine uJ1 0 [1,2,3,4] (c1) ?_)|refine uC ?_|refine D5 ?_);exact zk.1)|fail):p:=h ⟨k⟩
theorem Ef (k:q) (h:ZQ q→p:=by intro zk;first|((first|(refine ZAL ?_;first|(refine kL 1481 rfl ?_;first|refine A_bits rfl rfl .and 46 46 _ _ rfl rfl rfl rfl (and_lit 16 (M:=65536) rfl rfl (by omega) (by omega) (by omega)) ?_|refine A_shr rfl rfl 46 159 _ _ rfl rfl rfl (by decide) (fdiv_lit (m:=65536) rfl (by decide)) ?_|refine A_bits rfl rfl .and 46 46 _ _ rfl rfl rfl rfl (and_lit 32 (M:=4294967296) rfl rfl (by omega) (by omega) (by omega)) ?_|refine A_bits rfl rfl .and 46 46 _ _ rfl rfl rfl rfl rfl ?_|refine A_shr rfl rfl 46 159 _ _ rfl rfl rfl dL rfl ?_)|refine uA ?_|refine uK (c1) ?_)|refine uC ?_);exact zk.1)|fail):p:=h ⟨k⟩
theorem Eg {c:Prop} (x:c) (h:c→p:=by intro x;first|(exfalso;omega)|((first|exact Fin.q x (.cons (.agg rfl rfl ud55 rfl inf55 (us:=[_,_,_,_,_,_,_,_,_,_,_,_,_,_,_,_,_,_,_,_,_,_,_,_,_,_,_,_,_,_,_,_,_,_]) rfl rfl) (.cons (.tmp rfl) .nil)) []|refine Fin.q x (.cons (.agg rfl rfl ud55 rfl inf55 (us:=[_,_,_,_,_,_,_,_,_,_,_,_,_,_,_,_,_,_,_,_,_,_,_,_,_,_,_,_,_,_,_,_,_,_]) rfl rfl) (.cons (.tmp rfl) .nil)) [] (hr:=(.tupL (.cons (.t ?_) (.cons (.t ?_) .nil))))|refine Fin.mkv (rs:=_) x (.cons (.agg rfl rfl ud55 rfl inf55 (us:=[_,_,_,_,_,_,_,_,_,_,_,_,_,_,_,_,_,_,_,_,_,_,_,_,_,_,_,_,_,_,_,_,_,_]) rfl rfl) (.cons (.tmp rfl) .nil)) [] (by decide) rfl ?_ ?_ ?_<;>repeat' (first|exact ZE1|refine ZE2 ?_ ?_|refine ZE3 ?_|exact ZE4|fail)))|fail):p:=h x
theorem Eh (k:q) (h:ZQ q→p:=by intro zk;first|((first|refine AW.drawU (id:=7) mixed 4 qR ?_|refine AW.drawU (id:=10) mixed 0 qR ?_);exact zk.1)|fail):p:=h ⟨k⟩
theorem Ei (k:q) (h:ZQ q→p:=by intro zk;first|((first|refine AW.drawU (id:=5) mixed 1 qR ?_|refine AW.drawU (id:=6) mixed 2 qR ?_|refine AW.drawU (id:=8) mixed 2 qR ?_);exact zk.1)|fail):p:=h ⟨k⟩
theorem Ej (k:q) (h:ZQ q→p:=by intro zk;first|((first|(refine ZAL ?_;first|refine uA ?_|refine uK (c1) ?_)|(refine ZRG ?_;first|refine Gs ?_|refine uR ?_)|refine uC ?_|refine Ei ?_);exact zk.1)|fail):p:=h ⟨k⟩
theorem Ek (k:q) (h:ZQ q→p:=by intro zk;first|((refine kL 99 rfl ?_;first|refine A_store_rp rfl rfl 3 _ _ rfl inf3 (by decide) rfl rfl aU rfl rfl rfl (ZbT rfl) aP qN ?_);exact zk.1)|fail):p:=h ⟨k⟩
theorem El (k:q) (h:ZQ q→p:=by intro zk;first|((refine kR 12 rfl ?_;first|refine R_append rfl rfl _ _ 42 rfl ud42 inf63 rfl rfl rfl cY aA qB qB (by first|exact app_map aE|exact app_one (f:=tI) (x:=_) aE|exact app_one (f:=cTk) (x:=y) aE|exact app_one (f:=cPu) (x:=g) aE|exact app_one (f:=cTn) (x:=⟨_,_,_⟩) aE|exact qN) qN qS ?_);exact zk.1)|fail):p:=h ⟨k⟩
theorem Em (k:q) (h:ZQ q→p:=by intro zk;first|((refine kR 99 rfl ?_;first|refine R_store_rp rfl rfl 3 _ _ rfl inf3 (by decide) rfl rfl aU rfl rfl rfl (ZbT rfl) aP qN ?_);exact zk.1)|fail):p:=h ⟨k⟩
theorem En (k:q) (h:ZQ q→p:=by intro zk;first|((refine kR 1763 rfl ?_;first|refine R_store_rp rfl rfl 55 _ _ rfl inf55 (by decide) rfl rfl aU rfl rfl rfl (ZbT rfl) aP qN ?_);exact zk.1)|fail):p:=h ⟨k⟩
theorem Eo (k:q) (h:ZQ q→p:=by intro zk;first|((refine kR 4867 rfl ?_;first|refine R_store_rp rfl rfl 152 _ _ rfl inf152 (by decide) rfl rfl aU rfl rfl rfl (ZbT rfl) aP qN ?_);exact zk.1)|fail):p:=h ⟨k⟩
theorem Ep (k:q) (h:ZQ q→p:=by intro zk;first|((refine kR 1359 rfl ?_;first|refine R_lit rfl rfl 42 1 _ rfl ud42 inf63 (.cons rfl .nil) (els:=[[_,_,_]]) rfl (by first|exact (rfl:_=List.map tI [_])|exact (rfl:_=List.map cTk [y])|exact (rfl:_=List.map cPu [g])|exact (rfl:_=List.map cTn [⟨_,_,_⟩])|exact qN) rfl (gB rfl) (ZbT rfl) (ZbT rfl) qh qN ?_);exact zk.1)|fail):p:=h ⟨k⟩
theorem Eq (k:q) (h:ZQ q→p:=by intro zk;first|((refine kR 1347 rfl ?_;first|refine R_store_rp rfl rfl 42 _ _ rfl inf42 (by decide) rfl rfl aU rfl rfl rfl (ZbT rfl) aP qN ?_);exact zk.1)|fail):p:=h ⟨k⟩
theorem Er (k:q) (h:ZQ q→p:=by intro zk;first|((refine kR 4643 rfl ?_;first|refine R_store_rp rfl rfl 145 _ _ rfl inf145 (by decide) rfl rfl aU rfl rfl rfl (ZbT rfl) aP qN ?_);exact zk.1)|fail):p:=h ⟨k⟩
theorem Es (k:q) (h:ZQ q→p:=by intro zk;first|((first|refine AW.drawU (id:=1) mixed 0 qR ?_|refine AW.drawU (id:=2) mixed 4 qR ?_);exact zk.1)|fail):p:=h ⟨k⟩
theorem Et (k:q) (h:ZQ q→p:=by intro zk;first|((first|refine AW.drawU (id:=4) mixed 4 qR ?_|refine AW.drawU (id:=5) mixed 4 qR ?_);exact zk.1)|fail):p:=h ⟨k⟩
theorem Eu (k:q) (h:ZQ q→p:=by intro zk;first|((first|(refine ZAL ?_;first|refine Dt ?_|refine F6 ?_|refine uA ?_)|refine uC ?_);exact zk.1)|fail):p:=h ⟨k⟩
theorem Ev (k:q) (h:ZQ q→p:=by intro zk;first|((first|refine AW.drawU (id:=5) mixed 0 qR ?_|refine AW.drawU (id:=6) mixed 0 qR ?_);exact zk.1)|fail):p:=h ⟨k⟩
theorem Ew (k:q) (h:ZQ q→p:=by intro zk;first|((first|(refine ZAL ?_;first|refine uA ?_|refine uI [0,1,2,3,4,5,6,7,8,9,10] (c0) ?_|refine uI [0,1,2,3,4,5,6,7,8,9,10] (ct) ?_|refine uI [0,1,2,3,4,5,6,7,8,9,10] (c1) ?_)|refine uC ?_);exact zk.1)|fail):p:=h ⟨k⟩
theorem Ex (k:q) (h:ZQ q→p:=by intro zk;first|((first|(refine ZAL ?_;first|refine uA ?_|refine uI [0,1,2,3,4,5,6,7,8,9,10] (c3) ?_)|refine uC ?_);exact zk.1)|fail):p:=h ⟨k⟩
theorem Ey (k:q) (h:ZQ q→p:=by intro zk;first|((first|(refine ZAL ?_;first|refine uA ?_|refine uI [1,2,3,4,5,6,7,8,9,10,11] (c3) ?_)|(refine ZRG ?_;first|refine uR ?_|refine uJ1 1 [2,3,4,5,6,7,8,9,10,11] (c4) ?_)|refine uC ?_|refine AW.drawU (id:=11) mixed 0 qR ?_);exact zk.1)|fail):p:=h ⟨k⟩
theorem Ez (k:q) (h:ZQ q→p:=by intro zk;first|((refine kL 554 rfl ?_;first|(refine uI [1,2,3,4,5,6,7,8,9,10,11] ((dK ?zq0 ?zq1)) ?_;(case zq0=>omega);(case zq1=>omega)));exact zk.1)|fail):p:=h ⟨k⟩
theorem F0 (k:q) (h:ZQ q→p:=by intro zk;first|((first|(refine ZAL ?_;first|refine Bh ?_|refine C0 ?_|refine uA ?_|refine uK (cw) ?_)|refine uC ?_);exact zk.1)|fail):p:=h ⟨k⟩
theorem F3 {c q1 q2 q3:Prop} (x:c) (k1:q1) (k2:q2) (k3:q3) (h:c→ZQ q1→ZQ q2→ZQ q3→p:=by intro x z1 z2 z3;first|exact Fin.mkv (rs:=_) x (.cons (.agg rfl rfl ud145 rfl inf145 (us:=[_,_,_,_,_,_,_]) rfl rfl) .nil) [4] (by decide) rfl z1.1 z2.1 z3.1|fail):p:=h x ⟨k1⟩ ⟨k2⟩ ⟨k3⟩
theorem F4 (k:q) (h:ZQ q→p:=by intro zk;first|((refine kL 4458 rfl ?_;first|(refine uK (pcopied_c p.own.index p.own.tag p.spent p.free p.old ?zq0 ?zq1) ?_;(case zq0=>omega);(case zq1=>omega)));exact zk.1)|fail):p:=h ⟨k⟩
theorem F5 (k:q) (h:ZQ q→p:=by intro zk;first|((first|(refine ZAL ?_;first|refine uA ?_|(first|refine uK (c1) ?_|refine uK (c2) ?_|refine uK (c3) ?_))|refine uC ?_);exact zk.1)|fail):p:=h ⟨k⟩
theorem F6 (k:q) (h:ZQ q→p:=by intro zk;first|((refine kL 719 rfl ?_;first|refine A_lit rfl rfl 22 1 _ rfl ud22 inf3 (.cons rfl .nil) (els:=[[_]]) rfl bF rfl (gB rfl) (ZbT rfl) (ZbT rfl) (.push qL qN) ?_);exact zk.1)|fail):p:=h ⟨k⟩
theorem F7 (k:q) (h:ZQ q→p:=by intro zk;first|((first|(refine ZAL ?_;first|refine uA ?_|refine uI [0,1,2,3,4] (c1) ?_|refine uI [0,1,2,3,4] (c2) ?_)|(refine ZRG ?_;first|refine uR ?_|refine AT (cw) ?_|refine uJ1 0 [1,2,3,4] (c1) ?_)|refine uC ?_|refine C3 ?_);exact zk.1)|fail):p:=h ⟨k⟩
theorem F8 (k:q) (h:ZQ q→p:=by intro zk;first|((refine kL 963 rfl ?_;first|refine A_store_rp rfl rfl 30 _ _ rfl inf30 (by decide) rfl rfl aI rfl rfl rfl (ZbT rfl) bI qN ?_);exact zk.1)|fail):p:=h ⟨k⟩
theorem F9 (k:q) (h:ZQ q→p:=by intro zk;first|((first|refine uA ?_|(refine ZRG ?_;first|refine uR ?_|refine ZQ1 (cF) ?_)|refine uC ?_|refine AW.drawU (id:=12) mixed 0 qR ?_);exact zk.1)|fail):p:=h ⟨k⟩
theorem Fa (k:q) (h:ZQ q→p:=by intro zk;first|((first|refine uA ?_|(refine ZRG ?_;first|refine uR ?_|refine ZQ1 (cF) ?_)|refine uC ?_|refine AW.drawU (id:=1) mixed 0 qR ?_);exact zk.1)|fail):p:=h ⟨k⟩
theorem Fb (k:q) (h:ZQ q→p:=by intro zk;first|((first|(refine ZAL ?_;first|refine Bl ?_|(refine kL 10410 rfl ?_;first|(refine uI [0] (cR ?zq0) ?_;(case zq0=>omega)))|(refine kL 10378 rfl ?_;first|(refine uI [0] (c2 ?zq0) ?_;(case zq0=>omega))|(refine uI [0] (c3 ?zq0) ?_;(case zq0=>omega)))|refine uA ?_)|refine uR ?_|refine uC ?_|refine AW.drawU (id:=35) mixed 2 qR ?_);exact zk.1)|fail):p:=h ⟨k⟩
theorem Fc (k:q) (h:ZQ q→p:=by intro zk;first|((first|(refine ZAL ?_;first|refine uA ?_|refine uI [0] (c1) ?_)|refine uC ?_|(with_reducible (refine wka ?_)));exact zk.1)|fail):p:=h ⟨k⟩
theorem Fd (k:q) (h:ZQ q→p:=by intro zk;first|((refine kR 6415 rfl ?_;first|refine R_lit rfl rfl 200 1 _ rfl ud200 inf239 (.cons rfl .nil) (els:=[[_,_,_,_,_]]) rfl (by first|exact (rfl:_=List.map tI [_])|exact qN) rfl (gB rfl) (ZbT rfl) (ZbT rfl) qh qN ?_);exact zk.1)|fail):p:=h ⟨k⟩
theorem Fe (k:q) (h:ZQ q→p:=by intro zk;first|((refine kR 719 rfl ?_;first|refine R_lit rfl rfl 22 1 _ rfl ud22 inf3 (.cons rfl .nil) (els:=[[_]]) rfl (by first|exact (rfl:_=List.map tI [_])|exact qN) rfl (gB rfl) (ZbT rfl) (ZbT rfl) qh qN ?_);exact zk.1)|fail):p:=h ⟨k⟩
theorem Ff (k:q) (h:ZQ q→p:=by intro zk;first|((first|refine AW.drawU (id:=6) mixed 1 qR ?_|refine AW.drawU (id:=7) mixed 2 qR ?_|refine AW.drawU (id:=12) mixed 1 qR ?_);exact zk.1)|fail):p:=h ⟨k⟩
theorem Fi (k:q) (h:ZQ q→p:=by intro zk;first|((first|(refine ZAL ?_;first|(refine kL 3118 rfl ?_;first|(refine zkD 23 rfl ?_;refine uA ?_;(try refine uz 23 ?_)))|refine Ag ?_|refine uA ?_|refine uK (c1) ?_)|(refine ZRG ?_;first|refine Bn ?_|refine Bo ?_|refine uR ?_)|refine uC ?_|refine Bq ?_);exact zk.1)|fail):p:=h ⟨k⟩
theorem Fj (k:q) (h:ZQ q→p:=by intro zk;first|((first|(refine ZAL ?_;first|refine uA ?_|refine uK (cF) ?_|refine uK (cR) ?_|refine uK (cV) ?_)|refine uC ?_);exact zk.1)|fail):p:=h ⟨k⟩
theorem Fm (k:q) (h:ZQ q→p:=by intro zk;first|((first|(refine ZAL ?_;first|(refine kL 4014 rfl ?_;first|(refine zkD 24 rfl ?_;refine uA ?_;(try refine uz 24 ?_)))|refine uA ?_|refine uK (c1) ?_)|refine uR ?_|refine uC ?_|refine AW.drawU (id:=5) mixed 5 qR ?_);exact zk.1)|fail):p:=h ⟨k⟩
theorem Fo (k:q) (h:ZQ q→p:=by intro zk;first|((first|(refine ZAL ?_;first|refine uA ?_|refine uK (c0) ?_|refine uK (c1) ?_|refine uK (c2) ?_)|refine uC ?_);exact zk.1)|fail):p:=h ⟨k⟩
theorem Fp (k:q) (h:ZQ q→p:=by intro zk;first|((first|(refine ZAL ?_;first|refine Bl ?_|(refine kL 8906 rfl ?_;first|(refine uI [0] (cR ?zq0) ?_;(case zq0=>omega)))|(refine kL 8554 rfl ?_;first|(refine uI [0] (c2 ?zq0) ?_;(case zq0=>omega))|(refine uI [0] (c3 ?zq0) ?_;(case zq0=>omega)))|refine uA ?_)|refine uR ?_|refine uC ?_|refine AW.drawU (id:=35) mixed 2 qR ?_);exact zk.1)|fail):p:=h ⟨k⟩
theorem Fq (k:q) (h:ZQ q→p:=by intro zk;first|((refine kL 1 rfl ?_;first|((first|refine A_as (d:=4) rfl rfl rfl rfl ?_|refine A_move (d:=4) rfl rfl _ (.inr rfl) (y:=.sl _ _ _) rfl ?_|refine A_move (d:=4) rfl rfl _ (.inr rfl) (y:=.nl) rfl ?_|refine A_move (d:=4) rfl rfl _ (.inr rfl) (y:=.ptr _ _) rfl ?_|refine A_move (d:=4) rfl rfl _ (.inr rfl) (y:=.ln _) rfl ?_|refine A_move (d:=4) rfl rfl _ (.inr rfl) (y:=.lp _) rfl ?_|refine A_move (d:=4) rfl rfl _ (.inr rfl) (y:=.fn _ _ _) rfl ?_|refine A_move (d:=4) rfl rfl _ (.inr rfl) (y:=.sub _ _ _ _) rfl ?_|refine A_move (d:=4) rfl rfl _ (.inr rfl) (y:=.rp _ _ _ _) rfl ?_|refine A_move (d:=4) rfl rfl _ (.inr rfl) (y:=.agg _) rfl ?_|refine A_move (d:=4) rfl rfl _ (.inr rfl) (y:=.tup _) rfl ?_|refine A_move (d:=4) rfl rfl _ (.inr rfl) (y:=.mv _) rfl ?_|refine A_move (d:=4) rfl rfl _ (.inr rfl) (y:=.cl _) rfl ?_);(try refine uf 1 4 ?_)));exact zk.1)|fail):p:=h ⟨k⟩
theorem Fs (k:q) (h:ZQ q→p:=by intro zk;first|((first|(refine ZAL ?_;first|refine Cw ?_|refine Cx ?_|refine Cz ?_|refine uA ?_)|(refine ZRG ?_;first|refine D1 ?_|refine uR ?_)|refine uC ?_|refine AW.drawU (id:=5) mixed 0 qR ?_);exact zk.1)|fail):p:=h ⟨k⟩
theorem Ft (k:q) (h:ZQ q→p:=by intro zk;first|((first|(refine ZAL ?_;first|refine Fq ?_|refine Ae ?_|refine Cy ?_|refine Bs ?_|refine uA ?_)|refine uC ?_);exact zk.1)|fail):p:=h ⟨k⟩
theorem Fu (k:q) (h:ZQ q→p:=by intro zk;first|((first|(refine ZAL ?_;first|refine uA ?_|refine uK (c1) ?_)|(refine ZRG ?_;first|refine uR ?_|refine ZQ1 (c2) ?_)|refine uC ?_|refine AW.drawU (id:=3) mixed 0 qR ?_);exact zk.1)|fail):p:=h ⟨k⟩
theorem Fv (k:q) (h:ZQ q→p:=by intro zk;first|((first|refine uA ?_|(refine ZRG ?_;first|refine uR ?_|refine AT (c2) ?_)|refine uC ?_|refine AW.drawU (id:=3) mixed 0 qR ?_);exact zk.1)|fail):p:=h ⟨k⟩
theorem Fw (k:q) (h:ZQ q→p:=by intro zk;first|((first|refine AW.drawU (id:=3) mixed 0 qR ?_|refine AW.drawU (id:=6) mixed 2 qR ?_|refine AW.drawU (id:=8) mixed 0 qR ?_);exact zk.1)|fail):p:=h ⟨k⟩
theorem Fx (k:q) (h:ZQ q→p:=by intro zk;first|((first|((with_reducible refine kAW ?_);refine ufR (id:=7) 5 2 ?_)|(refine ZAL ?_;first|refine uA ?_|refine uK (co) ?_)|(refine ZRG ?_;first|refine Bt ?_|refine uR ?_|refine AT (ca) ?_)|refine uC ?_|refine Fw ?_);exact zk.1)|fail):p:=h ⟨k⟩
theorem Fy (k:q) (h:ZQ q→p:=by intro zk;first|((first|refine AW.drawU (id:=1) mixed 0 qR ?_|refine AW.drawU (id:=4) mixed 2 qR ?_|refine AW.drawU (id:=6) mixed 0 qR ?_|refine AW.drawU (id:=8) mixed 1 qR ?_|refine AW.drawU (id:=9) mixed 0 qR ?_);exact zk.1)|fail):p:=h ⟨k⟩
theorem Fz (k:q) (h:ZQ q→p:=by intro zk;first|((first|(refine ZAL ?_;first|refine uA ?_|refine uI [0,1,2,3,4] (c2) ?_)|(refine ZRG ?_;first|refine Af ?_|refine uR ?_|refine uJ1 0 [1,2,3,4] (cn) ?_|refine uJ1 0 [1,2,3,4] (c1) ?_)|refine uC ?_|refine Fy ?_);exact zk.1)|fail):p:=h ⟨k⟩
theorem G0 (k:q) (h:ZQ q→p:=by intro zk;first|((first|((with_reducible refine kAW ?_);refine ufB 6 0 ?_)|refine uA ?_|(refine ZRG ?_;first|refine Af ?_|refine Bt ?_|refine uR ?_|refine uJ1 0 [1,2,3,4] (c1) ?_|refine AT (cc) ?_|refine AT (ce) ?_)|refine uC ?_|refine D3 ?_);exact zk.1)|fail):p:=h ⟨k⟩
theorem G1 (k:q) (h:ZQ q→p:=by intro zk;first|((first|refine AW.drawU (id:=0) mixed 0 qR ?_|refine AW.drawU (id:=2) mixed 0 qR ?_|refine AW.drawU (id:=6) mixed 0 qR ?_);exact zk.1)|fail):p:=h ⟨k⟩
theorem G2 (k:q) (h:ZQ q→p:=by intro zk;first|((first|(refine ZAL ?_;first|refine uA ?_|refine uK (cb) ?_|refine uI [0,1,2,3,4] (c2) ?_)|(refine ZRG ?_;first|refine uR ?_|refine AT (cd) ?_|refine AT (ce) ?_|refine uJ1 0 [1,2,3,4] (c1) ?_)|refine uC ?_|refine G1 ?_);exact zk.1)|fail):p:=h ⟨k⟩
theorem G3 (k:q) (h:ZQ q→p:=by intro zk;first|((first|refine AW.drawU (id:=6) mixed 0 qR ?_|refine AW.drawU (id:=8) mixed 0 qR ?_|refine AW.drawU (id:=11) mixed 0 qR ?_|refine AW.drawU (id:=13) mixed 0 qR ?_);exact zk.1)|fail):p:=h ⟨k⟩
theorem G4 (k:q) (h:ZQ q→p:=by intro zk;first|((first|(refine ZAL ?_;first|refine Ae ?_|refine Cy ?_|refine Bs ?_|refine uA ?_)|refine uC ?_);exact zk.1)|fail):p:=h ⟨k⟩
theorem G5 (k:q) (h:ZQ q→p:=by intro zk;first|((first|(refine ZAL ?_;first|refine uA ?_|refine uI [0,1,2,3,4] (cn) ?_|refine uI [0,1,2,3,4] (c2) ?_|refine uK (cl) ?_|refine uK (cc) ?_)|(refine ZRG ?_;first|(refine kR 2954 rfl ?_;first|(first|refine uQ (cw) 0 ?_|refine uQ (cw) 1 ?_|refine uQ (cw) 2 ?_|refine uQ (cw) 3 ?_|refine uQ (cw) 4 ?_|refine uQ (cw) 5 ?_|refine uQ (cw) 6 ?_|refine uQ (cw) 7 ?_|refine uQ (cw) 8 ?_|refine uQ (cw) 9 ?_|refine uQ (cw) 10 ?_|refine uQ (cw) 11 ?_|refine uQ (cw) 12 ?_|refine uQ (cw) 13 ?_)|(first|refine uQ (cv) 0 ?_|refine uQ (cv) 1 ?_|refine uQ (cv) 2 ?_|refine uQ (cv) 3 ?_|refine uQ (cv) 4 ?_|refine uQ (cv) 5 ?_|refine uQ (cv) 6 ?_|refine uQ (cv) 7 ?_|refine uQ (cv) 8 ?_|refine uQ (cv) 9 ?_|refine uQ (cv) 10 ?_|refine uQ (cv) 11 ?_|refine uQ (cv) 12 ?_|refine uQ (cv) 13 ?_))|refine uR ?_|refine uJ1 0 [1,2,3,4] (c1) ?_|refine uJ1 0 [1,2,3,4] (cd) ?_)|refine uC ?_|refine G3 ?_);exact zk.1)|fail):p:=h ⟨k⟩
theorem G6 (k:q) (h:ZQ q→p:=by intro zk;first|((first|(refine ZAL ?_;first|refine Ag ?_|refine uA ?_)|(refine ZRG ?_;first|refine uR ?_|refine AT (ce) ?_|refine uJ1 0 [1,2,3,4] (c1) ?_)|refine uC ?_|refine D4 ?_);exact zk.1)|fail):p:=h ⟨k⟩
theorem G7 (k:q) (h:ZQ q→p:=by intro zk;first|((refine kL 12 rfl ?_;first|refine A_append_nlsub rfl rfl _ _ 48 rfl ud48 inf233 rfl rfl rfl rfl aJ qB qB iU.symm (.push qL qN) ?_);exact zk.1)|fail):p:=h ⟨k⟩
theorem G8 (k:q) (h:ZQ q→p:=by intro zk;first|((refine kL 1551 rfl ?_;first|refine A_lit rfl rfl 48 1 _ rfl ud48 inf233 (.cons rfl .nil) (els:=[[_,_]]) rfl bF rfl (gB rfl) (ZbT rfl) (ZbT rfl) (.push qL qN) ?_);exact zk.1)|fail):p:=h ⟨k⟩
theorem G9 (k:q) (h:ZQ q→p:=by intro zk;first|((first|refine uA ?_|(refine ZRG ?_;first|refine uR ?_|refine AT (cm) ?_|refine AT (ce) ?_|refine uJ1 0 [1,2,3,4] (c1) ?_)|refine uC ?_|refine D5 ?_);exact zk.1)|fail):p:=h ⟨k⟩
theorem Ga (k:q) (h:ZQ q→p:=by intro zk;first|((first|(refine ZAL ?_;first|refine uA ?_|refine uI [0,1,2,3,4] (c1) ?_|refine uI [0,1,2,3,4] (c2) ?_)|(refine ZRG ?_;first|refine uR ?_|refine AT (cm) ?_|refine uJ1 0 [1,2,3,4] (c1) ?_|refine AT (cr) ?_|refine AT (cb) ?_)|refine uC ?_|refine D5 ?_);exact zk.1)|fail):p:=h ⟨k⟩
theorem Gb (k:q) (h:ZQ q→p:=by intro zk;first|((first|(refine ZAL ?_;first|refine uA ?_|refine uI [0,1,2,3,4] (c1) ?_|refine uI [0,1,2,3,4] (c2) ?_|refine uK (ce) ?_)|(refine ZRG ?_;first|refine Af ?_|refine uR ?_|refine AT (ce) ?_|refine AT (cn) ?_|refine uJ1 0 [1,2,3,4] (c1) ?_)|refine uC ?_|refine D6 ?_);exact zk.1)|fail):p:=h ⟨k⟩
theorem Gc (k:q) (h:ZQ q→p:=by intro zk;first|((first|((with_reducible refine kAW ?_);refine ufB 6 0 ?_)|(refine ZAL ?_;first|refine uA ?_|refine uI [0,1,2,3,4] (c1) ?_|refine uI [0,1,2,3,4] (c2) ?_)|(refine ZRG ?_;first|refine Af ?_|refine uR ?_|refine uJ1 0 [1,2,3,4] (c1) ?_|refine AT (cc) ?_|refine AT (ce) ?_|refine AT (cs) ?_)|refine uC ?_|refine D6 ?_);exact zk.1)|fail):p:=h ⟨k⟩
theorem Gd (k:q) (h:ZQ q→p:=by intro zk;first|((first|(refine ZAL ?_;first|refine uA ?_|refine uI [0,1,2,3,4] (c2) ?_)|(refine ZRG ?_;first|refine uR ?_|refine AT (ce) ?_|refine uJ1 0 [1,2,3,4] (c1) ?_)|refine uC ?_|(first|refine AW.drawU (id:=0) mixed 0 qR ?_|refine AW.drawU (id:=4) mixed 0 qR ?_));exact zk.1)|fail):p:=h ⟨k⟩
theorem Ge (k:q) (h:ZQ q→p:=by intro zk;first|((refine kL 12 rfl ?_;first|refine A_append_nlsub rfl rfl _ _ 49 rfl ud49 inf236 rfl rfl rfl rfl aJ qB qB iU.symm (.push qL qN) ?_);exact zk.1)|fail):p:=h ⟨k⟩
theorem Gf (k:q) (h:ZQ q→p:=by intro zk;first|((first|(refine ZAL ?_;first|refine uA ?_|refine uI [0,1,2,3,4] (co) ?_|refine uK (cr) ?_|refine uI [0,1,2,3,4] (c2) ?_|refine uI [0,1,2,3,4] (c1) ?_)|(refine ZRG ?_;first|refine uR ?_|refine AT (cm) ?_|refine uJ1 0 [1,2,3,4] (c1) ?_)|refine uC ?_|refine Bb ?_);exact zk.1)|fail):p:=h ⟨k⟩
theorem Gg {c q1 q2 q3:Prop} (x:c) (k1:q1) (k2:q2) (k3:q3) (h:c→ZQ q1→ZQ q2→ZQ q3→p:=by intro x z1 z2 z3;first|exact Fin.mkv (rs:=_) x (.cons (.agg rfl rfl ud51 rfl inf51 (us:=[_,_,_,_,_]) rfl rfl) .nil) [2,3] (by decide) rfl z1.1 z2.1 z3.1|fail):p:=h x ⟨k1⟩ ⟨k2⟩ ⟨k3⟩
theorem Gh (k:q) (h:ZQ q→p:=by intro zk;first|((first|(refine ZAL ?_;first|refine uA ?_|refine uI [0,1,2,3,4] (c1) ?_)|(refine ZRG ?_;first|refine uR ?_|refine uJ1 0 [1,2,3,4] (c1) ?_|refine AT (cw) ?_)|refine uC ?_|refine Bb ?_);exact zk.1)|fail):p:=h ⟨k⟩
theorem Gi (k:q) (h:ZQ q→p:=by intro zk;first|((first|refine uA ?_|(refine ZRG ?_;first|refine uR ?_|refine uJ1 0 [1,2,3,4] (cn) ?_|refine uJ1 0 [1,2,3,4] (c1) ?_)|refine uC ?_|refine D8 ?_);exact zk.1)|fail):p:=h ⟨k⟩
theorem Gj (k:q) (h:ZQ q→p:=by intro zk;first|((refine kL 1481 rfl ?_;first|refine A_shl rfl rfl 46 159 _ _ rfl rfl rfl (by decide) (shl_lit (m:=65536) rfl bU) ?_|refine A_bits rfl rfl .or 46 46 _ _ rfl rfl rfl rfl (or_sum 16 (M:=65536) rfl (by omega) (by omega) (by omega) (by omega) (by omega) (by omega)) ?_|refine A_bits rfl rfl .or 46 46 _ _ rfl rfl rfl rfl (or_sum' 16 (M:=65536) rfl (by omega) (by omega) (by omega) (by omega) (by omega) (by omega)) ?_|refine A_shl rfl rfl 46 159 _ _ rfl rfl rfl dL rfl ?_|refine A_bits rfl rfl .or 46 46 _ _ rfl rfl rfl rfl rfl ?_);exact zk.1)|fail):p:=h ⟨k⟩
theorem Gk (k:q) (h:ZQ q→p:=by intro zk;first|((first|(refine ZAL ?_;first|refine uA ?_|refine uI [0,1,2,3,4] (co) ?_|refine uK (cr) ?_)|(refine ZRG ?_;first|refine uR ?_|refine uJ1 0 [1,2,3,4] (c1) ?_|refine AT (ce) ?_)|refine uC ?_|refine D8 ?_);exact zk.1)|fail):p:=h ⟨k⟩
theorem Gl {c q1 q2:Prop} (x:c) (k1:q1) (k2:q2) (h:c→ZQ q1→ZQ q2→p:=by intro x z1 z2;first|exact Fin.q x (.cons (.agg rfl rfl ud51 rfl inf51 (us:=[_,_,_,_,_]) rfl rfl) (.cons (.tmp rfl) .nil)) [5] (hr:=(.tupL (.cons (.t z1.1) (.cons (.t z2.1) .nil))))|fail):p:=h x ⟨k1⟩ ⟨k2⟩
theorem Gm {c q1 q2 q3:Prop} (x:c) (k1:q1) (k2:q2) (k3:q3) (h:c→ZQ q1→ZQ q2→ZQ q3→p:=by intro x z1 z2 z3;first|exact Fin.mkv (rs:=_) x (.cons (.agg rfl rfl ud51 rfl inf51 (us:=[_,_,_,_,_]) rfl rfl) (.cons (.tmp rfl) .nil)) [5] (by decide) rfl z1.1 z2.1 z3.1|fail):p:=h x ⟨k1⟩ ⟨k2⟩ ⟨k3⟩
theorem Gn (k:q) (h:ZQ q→p:=by intro zk;first|((first|(refine ZAL ?_;first|refine uA ?_|refine uK (c1) ?_)|refine uR ?_|refine uC ?_|refine AW.drawU (id:=10) mixed 0 qR ?_);exact zk.1)|fail):p:=h ⟨k⟩
theorem Gp (k:q) (h:ZQ q→p:=by intro zk;first|((refine kR 2255 rfl ?_;first|refine R_lit rfl rfl 70 1 _ rfl ud70 inf75 (.cons rfl .nil) (els:=[[_,_,_,_,_,_,_,_,_,_,_,_,_]]) rfl (by first|exact (rfl:_=List.map cNt [⟨_,_,_,_,⟨_,_,_,_,_⟩,⟨_,_,_,_⟩⟩])|exact qN) rfl (gB rfl) (ZbT rfl) (ZbT rfl) qh qN ?_);exact zk.1)|fail):p:=h ⟨k⟩
theorem Gq (k:q) (h:ZQ q→p:=by intro zk;first|((refine kR 12 rfl ?_;first|refine R_append rfl rfl _ _ 70 rfl ud70 inf75 rfl rfl rfl cY aA qB qB (by first|exact app_map aE|exact app_one (f:=cNt) (x:=⟨_,_,_,_,⟨_,_,_,_,_⟩,⟨_,_,_,_⟩⟩) aE|exact qN) qN qS ?_);exact zk.1)|fail):p:=h ⟨k⟩
theorem Gr (k:q) (h:ZQ q→p:=by intro zk;first|((first|(refine ZAL ?_;first|(refine kL 1699 rfl ?_;first|refine A_store_rp rfl rfl 53 _ _ rfl inf53 (by decide) rfl rfl bC rfl rfl rfl (ZbT rfl) bB qN ?_)|refine uA ?_)|(refine ZRG ?_;first|(refine kR 2403 rfl ?_;first|refine R_store_rp rfl rfl 75 _ _ rfl inf75 (by decide) rfl rfl bC rfl rfl rfl (ZbT rfl) bB qN ?_)|refine Gp ?_|refine Gq ?_|(refine kR 2243 rfl ?_;first|refine R_store_rp rfl rfl 70 _ _ rfl inf70 (by decide) rfl rfl bC rfl rfl rfl (ZbT rfl) bB qN ?_)|refine uR ?_|refine AT (c1) ?_)|refine uC ?_|(first|refine AW.drawU (id:=1) mixed 1 qR ?_|refine AW.drawU (id:=4) mixed 2 qR ?_));exact zk.1)|fail):p:=h ⟨k⟩
theorem Gs (k:q) (h:ZQ q→p:=by intro zk;first|((refine kR 2255 rfl ?_;first|refine R_lit rfl rfl 70 1 _ rfl ud70 inf75 (.cons rfl .nil) (els:=[[_,_,_,_,_,_,_,_,_,_,_,_,_]]) rfl bF rfl (gB rfl) (ZbT rfl) (ZbT rfl) qh qN ?_);exact zk.1)|fail):p:=h ⟨k⟩
theorem Gt {c q1 q2:Prop} (x:c) (k1:q1) (k2:q2) (h:c→ZQ q1→ZQ q2→p:=by intro x z1 z2;first|exact Fin.q x (.cons (.agg rfl rfl ud51 rfl inf51 (us:=[_,_,_,_,_]) rfl rfl) (.cons (.tmp rfl) .nil)) [3,4] (hr:=(.tupL (.cons (.t z1.1) (.cons (.t z2.1) .nil))))|fail):p:=h x ⟨k1⟩ ⟨k2⟩
theorem Gu {c q1 q2 q3:Prop} (x:c) (k1:q1) (k2:q2) (k3:q3) (h:c→ZQ q1→ZQ q2→ZQ q3→p:=by intro x z1 z2 z3;first|exact Fin.mkv (rs:=_) x (.cons (.agg rfl rfl ud51 rfl inf51 (us:=[_,_,_,_,_]) rfl rfl) (.cons (.tmp rfl) .nil)) [3,4] (by decide) rfl z1.1 z2.1 z3.1|fail):p:=h x ⟨k1⟩ ⟨k2⟩ ⟨k3⟩
theorem Gv (k:q) (h:ZQ q→p:=by intro zk;first|((first|(refine ZAL ?_;first|refine uA ?_|refine uK (c1) ?_)|refine uR ?_|refine uC ?_|refine AW.drawU (id:=3) mixed 0 qR ?_);exact zk.1)|fail):p:=h ⟨k⟩
theorem Gw (k:q) (h:ZQ q→p:=by intro zk;first|((first|(refine ZAL ?_;first|refine uA ?_|(first|refine uK (c1) ?_|refine uK (c2) ?_)|(first|refine uK (c3) ?_|refine uK (c4) ?_))|refine uC ?_);exact zk.1)|fail):p:=h ⟨k⟩
theorem Gx (k:q) (h:ZQ q→p:=by intro zk;first|((first|(refine ZAL ?_;first|refine uA ?_|refine uK (c1) ?_|refine uK (c2) ?_)|refine uR ?_|refine uC ?_|(first|refine AW.drawU (id:=20) mixed 0 qR ?_|refine AW.drawU (id:=21) mixed 0 qR ?_));exact zk.1)|fail):p:=h ⟨k⟩
theorem Gy (k:q) (h:ZQ q→p:=by intro zk;first|((first|(refine ZAL ?_;first|refine uA ?_|refine uK (c1) ?_)|(refine ZRG ?_;first|refine uR ?_|refine ZQ1 (c2) ?_|refine ZQ1 (c3) ?_)|refine uC ?_|refine AW.drawU (id:=3) mixed 0 qR ?_);exact zk.1)|fail):p:=h ⟨k⟩
theorem Gz (k:q) (h:ZQ q→p:=by intro zk;first|((first|(refine ZAL ?_;first|refine uA ?_|refine uI [0,1,2,3,4,5,6,7,8,9,10] (c1) ?_|refine uI [1,2,3,4] (c2) ?_)|refine uC ?_);exact zk.1)|fail):p:=h ⟨k⟩
theorem H1 (k:q) (h:ZQ q→p:=by intro zk;first|((first|refine uA ?_|(refine ZRG ?_;first|(refine kR 2992 rfl ?_;first|refine R_make rfl rfl 93 _ _ rfl ud93 inf101 rfl (zs:=[(.v (.int .i64 0)),(.v (.int .i64 0)),(.v (.bool false)),(.v (.bool false)),.lst []]) rfl rfl rfl _ aK aK qB qB bF qh qN ?_)|(refine kR 3024 rfl ?_;first|refine R_make rfl rfl 94 _ _ rfl ud94 inf167 rfl (zs:=[(.v (.bool false)),(.v (.int .i64 0)),(.v (.int .i64 0)),.lst []]) rfl rfl rfl _ aK aK qB qB bF qh qN ?_)|(refine kR 3056 rfl ?_;first|refine R_make rfl rfl 95 _ _ rfl ud95 inf53 rfl (zs:=[(.v (.int .i64 0)),(.v (.int .i64 0)),(.v (.int .i64 0)),(.v (.int .i64 0))]) rfl rfl rfl _ aK aK qB qB bF qh qN ?_)|refine uR ?_)|refine uC ?_|refine Es ?_);exact zk.1)|fail):p:=h ⟨k⟩
theorem H2 (k:q) (h:ZQ q→p:=by intro zk;first|((refine kR 2767 rfl ?_;first|refine R_lit rfl rfl 86 1 _ rfl ud86 inf55 (.cons rfl .nil) (els:=[[_,_,_,_,_,_,_,_,_,_,_,_,_,_,_,_,_,_,_,_,_,_,_,_,_,_,_,_,_,_,_,_,_,_]]) rfl bF rfl (gB rfl) (ZbT rfl) (ZbT rfl) qh qN ?_);exact zk.1)|fail):p:=h ⟨k⟩
theorem H3 {c:Prop} (x:c) (h:c→p:=by intro x;first|(exfalso;omega)|((first|exact Fin.q x (.cons (.agg rfl rfl ud51 rfl inf51 (us:=[_,_,_,_,_]) rfl rfl) .nil) []|refine Fin.q x (.cons (.agg rfl rfl ud51 rfl inf51 (us:=[_,_,_,_,_]) rfl rfl) .nil) [] (hr:=(.t ?_))|refine Fin.mkv (rs:=_) x (.cons (.agg rfl rfl ud51 rfl inf51 (us:=[_,_,_,_,_]) rfl rfl) .nil) [] (by decide) rfl ?_ ?_ ?_<;>repeat' (first|exact ZE1|refine ZE2 ?_ ?_|refine ZE3 ?_|exact ZE4|fail)))|fail):p:=h x
theorem H4 {c:Prop} (x:c) (h:c→p:=by intro x;first|exact Fin.q x (.cons (.agg rfl rfl ud55 rfl inf55 (us:=[_,_,_,_,_,_,_,_,_,_,_,_,_,_,_,_,_,_,_,_,_,_,_,_,_,_,_,_,_,_,_,_,_,_]) rfl rfl) .nil) []|fail):p:=h x
theorem H5 {c q1:Prop} (x:c) (k1:q1) (h:c→ZQ q1→p:=by intro x z1;first|exact Fin.q x (.cons (.agg rfl rfl ud55 rfl inf55 (us:=[_,_,_,_,_,_,_,_,_,_,_,_,_,_,_,_,_,_,_,_,_,_,_,_,_,_,_,_,_,_,_,_,_,_]) rfl rfl) .nil) [] (hr:=(.t z1.1))|fail):p:=h x ⟨k1⟩
theorem H6 {c q1 q2 q3:Prop} (x:c) (k1:q1) (k2:q2) (k3:q3) (h:c→ZQ q1→ZQ q2→ZQ q3→p:=by intro x z1 z2 z3;first|exact Fin.mkv (rs:=_) x (.cons (.agg rfl rfl ud55 rfl inf55 (us:=[_,_,_,_,_,_,_,_,_,_,_,_,_,_,_,_,_,_,_,_,_,_,_,_,_,_,_,_,_,_,_,_,_,_]) rfl rfl) .nil) [] (by decide) rfl z1.1 z2.1 z3.1|fail):p:=h x ⟨k1⟩ ⟨k2⟩ ⟨k3⟩
theorem H7 (k:q) (h:ZQ q→p:=by intro zk;first|((first|refine uA ?_|(refine ZRG ?_;first|refine uR ?_|refine uJ [1,2,3,4] (c1) ?_)|refine uC ?_|refine AW.drawU (id:=1) mixed 2 qR ?_);exact zk.1)|fail):p:=h ⟨k⟩
theorem H8 (k:q) (h:ZQ q→p:=by intro zk;first|((first|(refine ZAL ?_;first|refine uA ?_|refine uI [0,1,2,3,4,5,6,7,8,9,10] (c0) ?_|refine uI [0,1,2,3,4,5,6,7,8,9,10] (ct) ?_)|refine uC ?_);exact zk.1)|fail):p:=h ⟨k⟩
theorem H9 (k:q) (h:ZQ q→p:=by intro zk;first|((refine kL 975 rfl ?_;first|refine A_lit rfl rfl 30 1 _ rfl ud30 inf141 (.cons rfl .nil) (els:=[[_,_,_]]) rfl (by first|exact (rfl:_=List.map tCs [⟨d,h,v⟩])|exact qN) rfl (gB rfl) (ZbT rfl) (ZbT rfl) (.push qL qN) ?_);exact zk.1)|fail):p:=h ⟨k⟩
theorem Ha (k:q) (h:ZQ q→p:=by intro zk;first|((refine kL 1027 rfl ?_;first|refine A_store_rp rfl rfl 32 _ _ rfl inf32 (by decide) rfl rfl aI rfl rfl rfl (ZbT rfl) (by first|exact map_set (f:=tCs) (x:=⟨d,h,v⟩)|exact qN) qN ?_);exact zk.1)|fail):p:=h ⟨k⟩
theorem Hb (k:q) (h:ZQ q→p:=by intro zk;first|((first|(refine ZAL ?_;first|refine uA ?_|refine uK (c1) ?_|refine uK (aw) ?_)|refine uR ?_|refine uC ?_|refine AW.drawU (id:=11) mixed 0 qR ?_);exact zk.1)|fail):p:=h ⟨k⟩
theorem Hc (k:q) (h:ZQ q→p:=by intro zk;first|((first|(refine ZAL ?_;first|refine B4 ?_|refine B5 ?_|refine uA ?_|refine uK (c1) ?_|refine uK (aw) ?_)|refine uR ?_|refine uC ?_|refine AW.drawU (id:=20) mixed 0 qR ?_);exact zk.1)|fail):p:=h ⟨k⟩
theorem Hd (k:q) (h:ZQ q→p:=by intro zk;first|((first|(refine ZAL ?_;first|refine B4 ?_|refine B5 ?_|refine uA ?_|refine uK (cw) ?_|refine uK (cr) ?_)|(refine ZRG ?_;first|refine uR ?_|refine AT (cr) ?_)|refine uC ?_|refine AW.drawU (id:=20) mixed 0 qR ?_);exact zk.1)|fail):p:=h ⟨k⟩
theorem He (k:q) (h:ZQ q→p:=by intro zk;first|((first|(refine ZAL ?_;first|refine Bh ?_|refine C0 ?_|refine uA ?_|refine uK (c1) ?_|refine uK (aw) ?_)|refine uC ?_);exact zk.1)|fail):p:=h ⟨k⟩
theorem aA (h:p:=by first|exact .nl|exact .all rfl dD|exact .lst (by first|exact each_map (fun _=>rfl)|assumption|(simp<;>fail)|fail)|exact .ln (by first|exact each_map (fun _=>rfl)|assumption|(simp<;>fail)|fail)|exact .sl rfl cY|exact .sub rfl cY|fail):p:=h
theorem aB (h:p:=by first|(repeat' (first|exact FzL.nil|apply FzL.cons|exact FzR.nlt|exact FzR.all dD|exact FzR.sl cY|apply FzR.aggL|exact FzR.same _))|fail):p:=h
theorem aD (h:p:=by first|decide|(dsimp only;decide)|fail):p:=h
theorem aE (h:p:=by first|rfl|omega|(simp<;>fail)|fail|fail):p:=h
theorem aF (h:p:=by first|exact .nl|exact .all rfl dD|exact .lst dE|exact .ln dE|exact .sl rfl cY|exact .sub rfl cY|fail):p:=h
theorem aG (h:p:=by first|omega|(simp<;>fail)|(simp;omega)|fail):p:=h
theorem aH (h:p:=by first|simp [ho,Op.operands,Call.operands]|fail):p:=h
theorem aI (h:p:=by first|exact map_get dG|assumption|fail):p:=h
theorem aJ (h:p:=by first|((try simp only [fN,fP,gF,gI]);omega)|fail):p:=h
theorem aK (h:p:=by first|rfl|assumption|omega|fail):p:=h
theorem aL (h:p:=by first|exact rep_map (f:=tCh) (x:=⟨_,_,_,_,[]⟩)|exact rep_map (f:=tWt) (x:=⟨_,_,_,[]⟩)|exact rep_map (f:=tR) (x:=⟨_,_,_,_⟩)|exact qN|fail):p:=h
theorem aM (h:p:=by first|(rw [wanted_eqA hT];exact hw)|fail):p:=h
theorem aN (h:p:=by first|exact app_map dI|exact app_one (f:=tI) (x:=_) dI|exact app_one (f:=tU) (x:=_) dI|exact app_one (f:=tR) (x:=⟨_,_,_,_⟩) dI|exact app_one (f:=tCs) (x:=⟨_,_,_⟩) dI|exact app_one (f:=tOd) (x:=⟨⟨_,_⟩,_⟩) dI|exact app_one (f:=tRf) (x:=⟨_,_⟩) dI|exact app_one (f:=tOp) (x:=⟨_,_,_,⟨_,_,_,_,_⟩⟩) dI|((try simp only [jS,jI,iK,gW,gU,gZ,iC,gF,gI,iG,iL,gO,gX,kK,jM,gV,iT,Nat.reduceAdd,Nat.reduceSub]);rfl)|fail):p:=h
theorem aO (h:p:=by first|rfl|exact hh|fail):p:=h
theorem aP (h:p:=by first|exact map_set (f:=tI) (x:=_)|exact map_set (f:=cTk) (x:=y)|exact map_set (f:=cPu) (x:=g)|exact map_set (f:=cTn) (x:=⟨_,_,_⟩)|exact qN|fail):p:=h
theorem aQ (h:p:=by first|exact map_get dG|assumption|exact map_get ha|exact map_get (e3 _ (by omega))|fail):p:=h
theorem aS (h:p:=by first|exact take_drop_map (by first|omega|(simp;omega))|exact take_drop_map'|rfl|fail):p:=h
theorem aT (h:p:=by first|exact map_get dG|assumption|exact rfl|exact map_get (get_D (x:=0) (by omega))|fail):p:=h
theorem aU (h:p:=by first|exact map_get dG|assumption|exact map_get hx|exact map_get hp|exact map_get hst|exact map_get hmo|exact map_get hst2|fail):p:=h
theorem aV (h:p:=by first|exact map_get dG|assumption|exact map_get hx|exact map_get hp|fail):p:=h
theorem aX (h:p:=by first|exact map_get dG|assumption|exact map_get (e3 _ (by omega))|fail):p:=h
theorem aY (h:p:=by first|exact (rfl:_=List.map tI [_])|exact (rfl:_=List.map tU [_])|exact (rfl:_=List.map tR [⟨_,_,_,_⟩])|exact (rfl:_=List.map tCs [⟨_,_,_⟩])|exact (rfl:_=List.map tOd [⟨⟨_,_⟩,_⟩])|exact (rfl:_=List.map tRf [⟨_,_⟩])|exact (rfl:_=List.map tOp [⟨_,_,_,⟨_,_,_,_,_⟩⟩])|((try simp only [jS,jI,iK,gW,gU,gZ,iC,gF,gI,iG,iL,gO,gX,kK,jM,gV,iT,Nat.reduceAdd,Nat.reduceSub]);rfl)|fail):p:=h
theorem aZ (h:p:=by first|exact map_set (f:=tI) (x:=_)|exact map_set (f:=tU) (x:=_)|exact map_set (f:=tR) (x:=⟨_,_,_,_⟩)|exact map_set (f:=tCs) (x:=⟨_,_,_⟩)|exact map_set (f:=tOd) (x:=⟨⟨_,_⟩,_⟩)|exact map_set (f:=tRf) (x:=⟨_,_⟩)|exact map_set (f:=tOp) (x:=⟨_,_,_,⟨_,_,_,_,_⟩⟩)|((try simp only [jS,jI,iK,gW,gU,gZ,iC,gF,gI,iG,iL,gO,gX,kK,jM,gV,iT,Nat.reduceAdd,Nat.reduceSub]);rfl)|fail):p:=h
theorem bA (h:p:=by first|(simp;omega)|fail):p:=h
theorem bB (h:p:=by first|exact map_set (f:=cNt) (x:=⟨_,_,_,_,⟨_,_,_,_,_⟩,⟨_,_,_,_⟩⟩)|exact qN|fail):p:=h
theorem bC (h:p:=by first|exact map_get dG|assumption|exact map_get hx|fail):p:=h
theorem bD (h:p:=by first|(unfold execOp;rw [ho])|fail):p:=h
theorem bE (h:p:=by first|exact map_set (f:=tI) (x:=_)|exact map_set (f:=tTd) (x:=⟨t,⟨w.seq,m,0,0⟩⟩)|exact qN|fail):p:=h
theorem bF (h:p:=by first|exact qN|fail):p:=h
theorem bG (h:p:=by first|kernel_rfl|fail):p:=h
theorem bH (h:p:=by first|exact map_set (f:=tU) (x:=_)|exact map_set (f:=tAc) (x:=⟨_,_,_,_,_,_,_⟩)|exact qN|fail):p:=h
theorem bI (h:p:=by first|exact map_set (f:=tWt) (x:=⟨_,_,_,_⟩)|exact qN|fail):p:=h
theorem bJ (h:p:=by first|exact map_set (f:=tSl) (x:=osl o)|exact map_set (f:=tOd) (x:=o)|exact qN|fail):p:=h
theorem bK (h:p:=by first|exact map_get dG|assumption|exact map_get hx0|fail):p:=h
theorem bM (h:p:=by first|exact map_set (f:=tSl) (x:=_)|exact map_set (f:=tOd) (x:=_)|exact qN|fail):p:=h
theorem bN (h:p:=by first|(rw [hH N (by simp)];exact hat)|fail):p:=h
theorem bO (h:p:=by first|(unfold aMail;omega)|fail):p:=h
theorem bP (h:p:=by first|exact map_set (f:=tCh) (x:=⟨_,_,_,_,[]⟩)|exact map_set (f:=tWt) (x:=⟨_,_,_,[]⟩)|exact map_set (f:=tR) (x:=⟨_,_,_,_⟩)|exact qN|fail):p:=h
theorem bQ (h:p:=by first|exact wi|exact wu|rfl|fail):p:=h
theorem bS (h:p:=by first|exact cl_one (f:=tI) (x:=_)|exact cl_one (f:=tU) (x:=_)|exact cl_one (f:=tR) (x:=⟨_,_,_,_⟩)|exact cl_one (f:=tCs) (x:=⟨_,_,_⟩)|exact cl_one (f:=tOd) (x:=⟨⟨_,_⟩,_⟩)|exact cl_one (f:=tRf) (x:=⟨_,_⟩)|exact cl_one (f:=tOp) (x:=⟨_,_,_,⟨_,_,_,_,_⟩⟩)|exact qN|fail):p:=h
theorem bT (h:p:=by first|exact .all dD|exact .nlt|exact .same _|fail):p:=h
theorem bU (h:p:=by first|exact wi|exact wu|fail):p:=h
theorem bV (h:p:=by first|exact map_set (f:=tTd) (x:=⟨t,⟨w.seq,m,0,v⟩⟩)|exact qN|fail):p:=h
theorem bW (h:p:=by first|(repeat (first|exact Fl.nil|(apply Fl.cons;exact rfl;exact rfl;exact (ZbT rfl);exact qN)))|fail):p:=h
theorem bX (h:p:=by first|exact map_set (f:=tCh) (x:=⟨g1,g2,g3,g4,gb⟩)|exact qN|fail):p:=h
theorem bY (h:p:=by first|(unfold aHaz;omega)|fail):p:=h
theorem bZ (h:p:=by first|(unfold aEpo;omega)|fail):p:=h
theorem cG (h:p:=by first|(simp only [iK,Nat.sub_zero, ←iU, ←List.map_take];rfl)|rfl|fail):p:=h
theorem cJ (h:p:=by first|exact (rfl:_=List.map tSl [osl o])|exact (rfl:_=List.map tOd [o])|exact qN|fail):p:=h
theorem cU (h:p:=by first|simpa using hj|fail):p:=h
theorem cY (h:p:=by first|exact fV _|(simp<;>fail)|(simp;omega)|fail):p:=h
theorem dC (h:p:=by first|(rw [ev_eq hT aH];exact hx)|fail):p:=h
theorem dD (h:p:=by first|rfl|(simp<;>fail)|(simp;omega)|fail):p:=h
theorem dE (h:p:=by first|exact each_map (fun _=>rfl)|assumption|(simp<;>fail)|fail):p:=h
theorem dF (h:p:=by first|exact .no _|exact .yes rfl aG qJ|fail):p:=h
theorem dG (h:p:=by first|assumption|fail):p:=h
theorem dH (h:p:=by first|(rw [ev_eq hT aH];exact hy)|fail):p:=h
theorem dI (h:p:=by first|rfl|omega|(simp<;>fail)|fail):p:=h
theorem dJ (h:p:=by first|exact (rfl:_=List.map tSl [_])|exact (rfl:_=List.map tOd [_])|exact qN|fail):p:=h
theorem dL (h:p:=by first|decide|omega|fail):p:=h
theorem dM (h:p:=by first|exact map_set (f:=tI) (x:=_)|exact map_set (f:=cNt) (x:=⟨_,_,_,_,⟨_,_,_,_,_⟩,⟨_,_,_,_⟩⟩)|exact map_set (f:=cTk) (x:=y)|exact map_set (f:=cPu) (x:=_)|exact map_set (f:=cTn) (x:=⟨_,_,_⟩)|exact qN|fail):p:=h
theorem dN (h:p:=by first|exact map_set (f:=tI) (x:=_)|exact map_set (f:=cNt) (x:=⟨_,_,_,_,⟨_,_,_,_,_⟩,⟨_,_,_,_⟩⟩)|exact map_set (f:=cTk) (x:=x)|exact map_set (f:=cPu) (x:=_)|exact map_set (f:=cTn) (x:=⟨_,_,_⟩)|exact qN|fail):p:=h
theorem dO (h:p:=by first|(rw [hH i (by simp)];exact hi)|fail):p:=h
theorem dR (h:p:=by first|exact (rfl:_=List.map tI [_])|exact (rfl:_=List.map tTd [⟨t,⟨w.seq,m,0,0⟩⟩])|exact qN|fail):p:=h
theorem dS (h:p:=by first|(dsimp only;omega)|fail):p:=h
theorem dU (h:p:=by first|exact .inl rfl|exact .inr rfl|fail):p:=h
theorem dW (h:p:=by first|exact (rfl:_=List.map tCh [⟨_,_,_,_,_⟩])|exact qN|fail):p:=h
theorem dX (h:p:=by first|exact map_set (f:=tCh) (x:=⟨_,_,_,_,_⟩)|exact qN|fail):p:=h
theorem dY (h:p:=by first|(repeat (first|exact Parts.nil|(apply Parts.cons;exact rfl)))|fail):p:=h
theorem dZ (h:p:=by first|exact (rfl:_=List.map tWt [⟨_,_,_,_⟩])|exact qN|fail):p:=h
theorem eA (h:p:=by first|(repeat (first|exact Args.nil|(apply Args.cons;exact rfl)))|fail):p:=h
theorem eB (h:p:=by first|((try (dsimp only;fail_if_success done));first|omega|fail)|fail):p:=h
theorem eC (h:p:=by first|with_reducible exact gE _|exact rfl|fail):p:=h
theorem eF (h:p:=by first|exact map_set (f:=tCs) (x:=⟨_,_,_⟩)|exact qN|fail):p:=h
theorem eG (h:p:=by first|(rw [hx];rfl)|fail):p:=h
theorem eH (h:p:=by first|exact map_set (f:=cPu) (x:=⟨true,false,false,ei,eo,0,0⟩)|exact qN|fail):p:=h
theorem eI (h:p:=by first|(unfold aSeq;omega)|fail):p:=h
theorem eJ (h:p:=by first|exact .inl ⟨rfl,rfl⟩|exact .inr ⟨rfl,rfl⟩|fail):p:=h
theorem eK (h:p:=by first|(show (backP _ _).free.length+(backP _ _).old.length≤_;rw [backP_len];omega)|fail):p:=h
theorem eM (h:p:=by first|(have:=get_lt hb;omega)|fail):p:=h
theorem eO (h:p:=by first|(unfold Rdg;omega)|fail):p:=h
theorem eP (h:p:=by first|exact rep_map (f:=tCh) (x:=⟨1,x,true,false,[]⟩)|exact qN|fail):p:=h
theorem eQ (h:p:=by first|exact map_set (f:=tCh) (x:=⟨1,x,true,false,[]⟩)|exact qN|fail):p:=h
theorem eU (h:p:=by first|exact (rfl:_=List.map tTd [⟨t,⟨w.seq,m,0,v⟩⟩])|exact qN|fail):p:=h
theorem eV (h:p:=by first|(rw [hy];rfl)|fail):p:=h
theorem eW (h:p:=by first|simpa using hu|fail):p:=h
theorem eX (h:p:=by first|simpa using hi|fail):p:=h
theorem eY (h:p:=by first|(have:=get_lt hj;omega)|fail):p:=h
theorem eZ (h:p:=by first|(rw [stC_len];omega)|fail):p:=h
theorem fA (h:p:=by first|((try simp only [fN]);rfl)|fail):p:=h
theorem fB (h:p:=by first|exact wu|fail):p:=h
theorem fC (h:p:=by first|(rw [h2];exact ha)|fail):p:=h
theorem fD (h:p:=by first|exact app_map aE|exact app_one (f:=tSl) (x:=osl o) aE|exact app_one (f:=tOd) (x:=o) aE|exact qN|fail):p:=h
theorem fF (h:p:=by first|exact app_map aE|exact app_one (f:=tSl) (x:=_) aE|exact app_one (f:=tOd) (x:=_) aE|exact qN|fail):p:=h
theorem fG (h:p:=by first|exact rfl|(simp<;>fail)|fail):p:=h
theorem fH (h:p:=by first|simpa using h|fail):p:=h
theorem fI (h:p:=by first|(rw [fP,gT];omega)|fail):p:=h
theorem fJ (h:p:=by first|exact (rfl:_=List.map tU [_])|exact (rfl:_=List.map tAc [⟨_,_,_,_,_,_,_⟩])|exact qN|fail):p:=h
theorem fK (h:p:=by first|exact map_get dG|assumption|exact map_get hy|fail):p:=h
theorem fL (h:p:=by first|exact map_get dG|assumption|exact map_get hc|fail):p:=h
theorem fM (h:p:=by first|exact map_get dG|assumption|exact map_get hg|exact map_get hx|fail):p:=h
end Go.Proofs.YtccefppppedgkaaGreat
