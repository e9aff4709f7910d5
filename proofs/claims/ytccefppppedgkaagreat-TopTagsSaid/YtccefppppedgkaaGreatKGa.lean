/- Joined: XTW. -/
import Derived.Below
set_option linter.unusedVariables false
set_option linter.unusedSimpArgs false
set_option linter.unnecessarySimpa false
set_option maxRecDepth 100000
set_option maxHeartbeats 64000000
namespace Go.Proofs.YtccefppppedgkaaGreat
abbrev fH:=@List.length_map
abbrev fI:=@List.mem_of_getElem?
abbrev fJ:=@List.length_append
abbrev fK:=@List.getD_eq_getElem?_getD
abbrev fL:=@if_pos
abbrev fM:=@if_neg
abbrev fN:=@Nat.le_refl
abbrev fO:=@Nat.zero_le
abbrev fP:=@decide_eq_false
abbrev fQ:=@List.length_take
abbrev fR:=@decide_eq_true
abbrev fS:=@List.append_assoc
abbrev fT:=@Nat.ne_of_beq_eq_false
abbrev fV:=@List.getElem?_append_right
abbrev fW:=@Int.toNat_natCast
abbrev fX:=@Bool.and_eq_true
abbrev fY:=@List.length_cons
abbrev fZ:=@List.getElem?_append_left
abbrev gB:=@List.length_nil
abbrev gC:=@List.getElem?_drop
abbrev gD:=@List.length_drop
abbrev gE:=@decide_eq_true_eq
abbrev gF:=@List.getElem?_take
abbrev gG:=@Int.le_refl
abbrev gH:=@List.map_cons
abbrev gI:=@List.getElem?_map
abbrev gJ:=@List.mem_append
abbrev gK:=@Nat.zero_add
abbrev gL:=@List.getElem?_eq_none
abbrev gM:=@List.nil_append
abbrev gN:=@List.drop_succ_cons
abbrev gO:=@List.map_nil
abbrev gP:=@List.getElem?_set
abbrev gQ:=@List.length_singleton
abbrev gS:=@List.cons_append
abbrev gT:=@List.eq_nil_of_length_eq_zero
abbrev gU:=@List.append_nil
abbrev gV:=@Nat.mul_le_mul_right
abbrev gW:=@List.mem_of_mem_drop
abbrev gX:=@List.set_cons_zero
abbrev gY:=@List.all_eq_true
abbrev gZ:=@List.getElem?_eq_some_iff
abbrev iA:=@List.drop_zero
abbrev iB:=@List.set_cons_succ
abbrev iC:=@Bool.false_eq_true
abbrev iD:=@Int.mul_le_mul_of_nonneg_right
abbrev iE:=@List.mem_cons
abbrev iF:=@List.mem_append_right
abbrev iG:=@List.take_add_one
abbrev iH:=@List.mem_of_mem_take
abbrev iI:=@List.ext_getElem?
abbrev iJ:=@List.length_set
abbrev iK:=@Nat.add_zero
abbrev iL:=@List.mem_append_left
abbrev iM:=@List.length_replicate
abbrev iN:=@List.mem_or_eq_of_mem_set
abbrev iO:=@Array.getD_eq_getD_getElem?
abbrev iP:=@List.mem_map
abbrev iQ:=@Nat.eq_of_beq_eq_true
abbrev iR:=@List.take_append_drop
abbrev iS:=@List.eq_of_mem_replicate
abbrev iT:=@List.mem_singleton
abbrev iU:=@List.getElem?_set_self
abbrev iV:=@List.map_append
abbrev iW:=@List.map_drop
abbrev iX:=@List.getElem?_cons_succ
abbrev iY:=@List.take_succ_cons
abbrev iZ:=@Nat.le_trans
abbrev jA:=@Bool.false_and
abbrev jB:=@Option.getD_some
abbrev jC:=@if_false
abbrev jD:=@List.drop_nil
abbrev jE:=@List.take_of_length_le
abbrev jF:=@List.getElem?_of_mem
abbrev jG:=@List.getElem?_set_ne
abbrev jH:=@Nat.add_sub_cancel_left
abbrev jI:=@of_decide_eq_true
abbrev jJ:=@List.take_zero
abbrev jK:=@List.getElem?_cons_zero
abbrev jL:=@if_true
abbrev jM:=@List.foldl_append
abbrev jN:=@Nat.lt_of_lt_of_le
abbrev jO:=@List.getElem?_range
abbrev jP:=@cond_false
abbrev jQ:=@Int.add_sub_cancel
abbrev jR:=@Option.some.inj
abbrev jS:=@cond_true
abbrev jT:=@List.take_length
abbrev jU:=@List.map_congr_left
abbrev jV:=@List.drop_drop
abbrev jW:=@Int.mul_nonneg
abbrev jX:=@Nat.succ_mul
abbrev jY:=@Nat.le_succ
abbrev jZ:=@List.take_nil
abbrev kA:=@List.getElem?_nil
abbrev kB:=@Classical.em
abbrev kC:=@Nat.min_eq_left
abbrev kD:=@List.range_succ
abbrev kE:=@List.foldl_cons
abbrev kF:=@Option.map_some
abbrev kG:=@List.pairwise_iff_getElem
abbrev kH:=@Array.toList_inj
abbrev kI:=@List.zip_cons_cons
abbrev kJ:=@List.pairwise_cons
abbrev kK:=@Nat.beq_refl
abbrev kM:=@Bool.true_and
abbrev kN:=@List.mem_range
abbrev kO:=@List.size_toArray
abbrev kP:=@Array.toList_append
abbrev kQ:=@List.length_pos_iff
abbrev kS:=@Nat.sub_self
abbrev kT:=@List.map_toArray
abbrev kU:=@List.any_eq_true
abbrev kV:=@decide_eq_decide
abbrev kW:=@List.not_mem_nil
abbrev kX:=@List.take_left
abbrev kY:=@List.mem_cons_self
abbrev kZ:=@List.zip_nil_right
abbrev lE:=@List.filter_append
abbrev lF:=@Bool.and_false
abbrev lG:=@Classical.byContradiction
abbrev lH:=@Bool.or_eq_true
abbrev lI:=@List.pairwise_append
abbrev lJ:=@Nat.mul_comm
abbrev lK:=@List.replicate_succ'
abbrev lN:=@List.length_range
abbrev lO:=@List.zip_nil_left
abbrev lP:=@Nat.add_assoc
abbrev lQ:=@Array.length_toList
abbrev lR:=@List.all_eq_not_any_not
abbrev lS:=@List.nodup_cons
abbrev lT:=@List.headD_cons
abbrev lU:=@List.dropLast_concat_getLast
abbrev lV:=@false_and
abbrev lW:=@Nat.ble_eq_true_of_le
abbrev lX:=@List.singleton_append
abbrev lY:=@List.flatMap_cons
abbrev lZ:=@Option.some.injEq
abbrev mA:=@Nat.lt_trichotomy
abbrev mE:=@List.mem_cons_of_mem
abbrev mF:=@List.map_map
abbrev mG:=@Array.getElem?_eq_getElem
abbrev mH:=@Int.add_assoc
abbrev mI:=@List.set_append
abbrev mJ:=@Nat.add_mul
abbrev mK:=@List.length_eq_zero_iff
abbrev mM:=@List.getElem?_replicate
abbrev mN:=@Nat.dvd_refl
abbrev mO:=@Int.mul_le_mul
abbrev mP:=@List.flatMap_nil
abbrev mQ:=@map_eq_pure_bind
abbrev mS:=@and_assoc
abbrev mT:=@List.filter_cons
abbrev mU:=@Nat.dvd_add
abbrev mV:=@Int.add_mul
open Go.RowKit
structure ZQ (q:Prop):Prop where
 o:q
variable {p q r:Prop}
theorem ZK2 {a b:Prop} (x:a→q) (y:b→r) (h:(a→q)→(b→r)→p:=by intro x y;first|exact kcp rfl x y|exact kcn rfl x y|exact kcb rfl x y|exact kcc rfl x y|fail):p:=h x y
theorem ZAL (k:q) (h:ZQ q→p:=by intro zk;first|(with_reducible refine kAL ?_;exact zk.1)|fail):p:=h ⟨k⟩
theorem ZRG (k:q) (h:ZQ q→p:=by intro zk;first|(with_reducible refine kRG ?_;exact zk.1)|fail):p:=h ⟨k⟩
theorem ZE5 (h:p:=by first|(exfalso;omega)|fail):p:=h
theorem ZbT {n m:Nat} (h:Nat.ble n m=true):n≤m:=Nat.le_of_ble_eq_true h
theorem ZgE {α:Type _} {l:List α} {i:Nat} (h:i<l.length):l[i]? = some l[i]:=List.getElem?_eq_getElem h
theorem ZEN {a b:Prop} (x:a) (y:b) (k:q) (h:a→b→ZQ q→p:=by intro x y zk;first|exact Cd.enter' x rfl y rfl zk.1|exact Cio.enter' x rfl y rfl qM zk.1|exact C.enter' x rfl y rfl qM zk.1|fail):p:=h x y ⟨k⟩
theorem ZE1 (h:p:=by first|exact .nil|exact .gone|exact .nl|exact .optr rfl|exact .nptr rfl rfl rfl|fail):p:=h
theorem ZE2 (x:q) (y:r) (h:ZQ q→ZQ r→p:=by intro x y;first|exact .cons rfl x.1 y.1|exact .cons x.1 y.1|fail):p:=h ⟨x⟩ ⟨y⟩
theorem ZE3 (x:q) (h:ZQ q→p:=by intro x;first|exact .row x.1|exact .rset x.1|exact .box x.1|exact .aggL x.1|exact .tupL x.1|exact .old rfl x.1|exact .new rfl rfl rfl x.1|exact .t x.1|fail):p:=h ⟨x⟩
theorem ZE4 (h:p:=by first|exact .any _|rfl|fail):p:=h
theorem ZQ1 {c:Prop} (x:c) (k:q) (h:c→ZQ q→p:=by intro x zk;first|(refine uQ x 0 ?_;exact zk.1)|fail):p:=h x ⟨k⟩
theorem AZ {c:Prop} (x:c) (k:q) (h:c→ZQ q→p:=by intro x zk;first|(refine uQ x 0 ?_;exact zk.1)|(refine uQ x 1 ?_;exact zk.1)|(refine uQ x 2 ?_;exact zk.1)|(refine uQ x 3 ?_;exact zk.1)|(refine uQ x 4 ?_;exact zk.1)|(refine uQ x 5 ?_;exact zk.1)|(refine uQ x 6 ?_;exact zk.1)|(refine uQ x 7 ?_;exact zk.1)|(refine uQ x 8 ?_;exact zk.1)|(refine uQ x 9 ?_;exact zk.1)|(refine uQ x 10 ?_;exact zk.1)|(refine uQ x 11 ?_;exact zk.1)|(refine uQ x 12 ?_;exact zk.1)|(refine uQ x 13 ?_;exact zk.1)|fail):p:=h x ⟨k⟩
theorem A0 (k:q) (h:ZQ q→p:=by intro zk;first|((first|refine uA ?_|refine uC ?_);exact zk.1)|fail):p:=h ⟨k⟩
theorem A2 {c:Prop} (x:c) (h:c→p:=by intro x;first|(exfalso;omega)|(exact Fin.q x (.cons (.tmp rfl) .nil) [])|fail):p:=h x
theorem A3 {c:Prop} (x:c) (h:c→p:=by intro x;first|(exfalso;omega)|(refine fnz 0 ?_;(first|exact Fin.q x .nil []|refine Fin.q x .nil [] (hr:=(.tupL .nil))|refine Fin.mkv (rs:=_) x .nil [] (by decide) rfl ?_ ?_ ?_<;>repeat' (first|exact ZE1|refine ZE2 ?_ ?_|refine ZE3 ?_|exact ZE4|fail)))|fail):p:=h x
theorem A4 {c:Prop} (x:c) (h:c→p:=by intro x;first|(exfalso;omega)|((first|exact Fin.q x (.cons (.tmp rfl) .nil) []|refine Fin.q x (.cons (.tmp rfl) .nil) [] (hr:=(.t ?_))|refine Fin.mkv (rs:=_) x (.cons (.tmp rfl) .nil) [] (by decide) rfl ?_ ?_ ?_<;>repeat' (first|exact ZE1|refine ZE2 ?_ ?_|refine ZE3 ?_|exact ZE4|fail)))|fail):p:=h x
theorem A5 {c:Prop} (x:c) (h:c→p:=by intro x;first|exact Fin.q x (.cons (.tmp rfl) .nil) []|fail):p:=h x
theorem A6 (k:q) (h:ZQ q→p:=by intro zk;first|((first|(refine ZAL ?_;first|refine uA ?_|refine uK (c1) ?_)|refine uC ?_);exact zk.1)|fail):p:=h ⟨k⟩
theorem A7 {c q1:Prop} (x:c) (k1:q1) (h:c→ZQ q1→p:=by intro x z1;first|exact Fin.q x (.cons (.tmp rfl) .nil) [] (hr:=(.t z1.1))|fail):p:=h x ⟨k1⟩
theorem A8 {c q1 q2 q3:Prop} (x:c) (k1:q1) (k2:q2) (k3:q3) (h:c→ZQ q1→ZQ q2→ZQ q3→p:=by intro x z1 z2 z3;first|exact Fin.mkv (rs:=_) x (.cons (.tmp rfl) .nil) [] (by decide) rfl z1.1 z2.1 z3.1|fail):p:=h x ⟨k1⟩ ⟨k2⟩ ⟨k3⟩
theorem A9 {c:Prop} (x:c) (h:c→p:=by intro x;first|(exfalso;omega)|((first|exact Fin.q x .nil []|refine Fin.q x .nil [] (hr:=(.tupL .nil))|refine Fin.mkv (rs:=_) x .nil [] (by decide) rfl ?_ ?_ ?_<;>repeat' (first|exact ZE1|refine ZE2 ?_ ?_|refine ZE3 ?_|exact ZE4|fail)))|fail):p:=h x
theorem Aa {c:Prop} (x:c) (h:c→p:=by intro x;first|(exfalso;omega)|(exact Fin.q x (.cons (.agg rfl rfl ud53 rfl inf53 (us:=[_,_,_,_]) rfl rfl) .nil) [])|fail):p:=h x
theorem Ab {c:Prop} (x:c) (h:c→p:=by intro x;first|exact Fin.q x (.cons (.tmp rfl) .nil) [0]|fail):p:=h x
theorem Ac (k:q) (h:ZQ q→p:=by intro zk;first|((refine kL 12 rfl ?_;first|refine A_append_nlsub rfl rfl _ _ 39 rfl ud39 inf46 rfl rfl rfl rfl aK qB qB iW.symm (.push qL qN) ?_);exact zk.1)|fail):p:=h ⟨k⟩
theorem Ad (k:q) (h:ZQ q→p:=by intro zk;first|(refine ZEN Tryz.func60 Tryz.ntmps60 ?_;exact zk.1)|fail):p:=h ⟨k⟩
theorem Ae (k:q) (h:ZQ q→p:=by intro zk;first|(refine ZEN Tryz.func51 Tryz.ntmps51 ?_;exact zk.1)|fail):p:=h ⟨k⟩
theorem Af (k:q) (h:ZQ q→p:=by intro zk;first|((refine kR 1263 rfl ?_;first|refine R_lit rfl rfl 39 1 _ rfl ud39 inf46 (.cons rfl .nil) (els:=[[_]]) rfl bG rfl (fT rfl) (ZbT rfl) (ZbT rfl) qh qN ?_);exact zk.1)|fail):p:=h ⟨k⟩
theorem Ag (k:q) (h:ZQ q→p:=by intro zk;first|((refine kL 1481 rfl ?_;first|refine A_bits rfl rfl .and 46 46 _ _ rfl rfl rfl rfl (and_lit 32 (M:=4294967296) rfl rfl (by omega) (by omega) (by omega)) ?_|refine A_bits rfl rfl .and 46 46 _ _ rfl rfl rfl rfl rfl ?_);exact zk.1)|fail):p:=h ⟨k⟩
theorem Ah {c:Prop} (x:c) (h:c→p:=by intro x;first|(exfalso;omega)|(exact Fin.q x .nil [])|fail):p:=h x
theorem Ai (k:q) (h:ZQ q→p:=by intro zk;first|((first|(refine ZAL ?_;first|refine uA ?_|refine uK (c1) ?_|refine uK (c2) ?_)|refine uC ?_);exact zk.1)|fail):p:=h ⟨k⟩
theorem Aj {c q1:Prop} (x:c) (k1:q1) (h:c→ZQ q1→p:=by intro x z1;first|exact Fin.q x (.cons (.tmp rfl) .nil) [0] (hr:=(.t z1.1))|fail):p:=h x ⟨k1⟩
theorem Ak {c q1 q2 q3:Prop} (x:c) (k1:q1) (k2:q2) (k3:q3) (h:c→ZQ q1→ZQ q2→ZQ q3→p:=by intro x z1 z2 z3;first|exact Fin.mkv (rs:=_) x (.cons (.tmp rfl) .nil) [0] (by decide) rfl z1.1 z2.1 z3.1|fail):p:=h x ⟨k1⟩ ⟨k2⟩ ⟨k3⟩
theorem Al (k:q) (h:ZQ q→p:=by intro zk;first|((refine kL 1263 rfl ?_;first|refine A_lit rfl rfl 39 1 _ rfl ud39 inf46 (.cons rfl .nil) (els:=[[_]]) rfl bG rfl (fT rfl) (ZbT rfl) (ZbT rfl) (.push qL qN) ?_);exact zk.1)|fail):p:=h ⟨k⟩
theorem Am (k:q) (h:ZQ q→p:=by intro zk;first|((first|(refine ZAL ?_;first|refine uA ?_|refine uV (c1) ?_)|refine uC ?_);exact zk.1)|fail):p:=h ⟨k⟩
theorem Ao (k:q) (h:ZQ q→p:=by intro zk;first|((first|(refine ZAL ?_;first|refine uA ?_|refine uI [0] (c1) ?_)|refine uC ?_);exact zk.1)|fail):p:=h ⟨k⟩
theorem Ap (k:q) (h:ZQ q→p:=by intro zk;first|(refine ZEN Tryz.func86 Tryz.ntmps86 ?_;exact zk.1)|fail):p:=h ⟨k⟩
theorem Aq (k:q) (h:ZQ q→p:=by intro zk;first|((first|(refine ZAL ?_;first|refine uA ?_|refine uI [8,0,1,2,3] (c1) ?_)|(refine ZRG ?_;first|refine uR ?_|refine uJ [0,1,2,3] (c0) ?_|refine AZ (ct) ?_)|refine uC ?_|(first|refine AW.drawU (id:=1) mixed 0 qR ?_|refine AW.drawU (id:=23) mixed 0 qR ?_));exact zk.1)|fail):p:=h ⟨k⟩
theorem As {c:Prop} (x:c) (h:c→p:=by intro x;first|(exfalso;omega)|((first|exact Fin.q x (.cons (.agg rfl rfl ud55 rfl inf55 (us:=[_,_,_,_,_,_,_,_,_,_,_,_,_,_,_,_,_,_,_,_,_,_,_,_,_,_,_,_,_,_,_,_,_,_]) rfl rfl) (.cons (.agg rfl rfl ud152 rfl inf152 (us:=[_,_,_]) rfl rfl) .nil)) []|refine Fin.q x (.cons (.agg rfl rfl ud55 rfl inf55 (us:=[_,_,_,_,_,_,_,_,_,_,_,_,_,_,_,_,_,_,_,_,_,_,_,_,_,_,_,_,_,_,_,_,_,_]) rfl rfl) (.cons (.agg rfl rfl ud152 rfl inf152 (us:=[_,_,_]) rfl rfl) .nil)) [] (hr:=(.tupL (.cons (.t ?_) (.cons (.t ?_) .nil))))|refine Fin.mkv (rs:=_) x (.cons (.agg rfl rfl ud55 rfl inf55 (us:=[_,_,_,_,_,_,_,_,_,_,_,_,_,_,_,_,_,_,_,_,_,_,_,_,_,_,_,_,_,_,_,_,_,_]) rfl rfl) (.cons (.agg rfl rfl ud152 rfl inf152 (us:=[_,_,_]) rfl rfl) .nil)) [] (by decide) rfl ?_ ?_ ?_<;>repeat' (first|exact ZE1|refine ZE2 ?_ ?_|refine ZE3 ?_|exact ZE4|fail)))|fail):p:=h x
theorem Au (k:q) (h:ZQ q→p:=by intro zk;first|((first|(refine ZAL ?_;first|(refine kL 3146 rfl ?_;first|(refine uK (inR_t ?zq0) ?_;(case zq0=>assumption))|(refine uK (inR_f ?zq0) ?_;(case zq0=>assumption)))|refine uA ?_)|refine uC ?_);exact zk.1)|fail):p:=h ⟨k⟩
theorem Av (k:q) (h:ZQ q→p:=by intro zk;first|(refine ZEN Tryz.func123 Tryz.ntmps123 ?_;exact zk.1)|fail):p:=h ⟨k⟩
theorem Aw (k:q) (h:ZQ q→p:=by intro zk;first|(refine ZEN Tryz.func128 Tryz.ntmps128 ?_;exact zk.1)|fail):p:=h ⟨k⟩
theorem Ax (k:q) (h:ZQ q→p:=by intro zk;first|(refine ZEN Tryz.func130 Tryz.ntmps130 ?_;exact zk.1)|fail):p:=h ⟨k⟩
theorem Ay (k:q) (h:ZQ q→p:=by intro zk;first|((first|(refine ZAL ?_;first|refine Bb ?_|refine uA ?_)|refine uR ?_|refine uC ?_|refine AW.drawU (id:=35) mixed 2 qR ?_);exact zk.1)|fail):p:=h ⟨k⟩
theorem Az (k:q) (h:ZQ q→p:=by intro zk;first|(refine ZEN Tryz.func127 Tryz.ntmps127 ?_;exact zk.1)|fail):p:=h ⟨k⟩
theorem B0 (k:q) (h:ZQ q→p:=by intro zk;first|((first|(refine ZAL ?_;first|refine Ea ?_|refine uA ?_|refine uI [0,1,2,3,4,5,6,7,8,9,10] (c1) ?_|refine uI [0,1,2,3,4,5,6,7,8,9,10] (c3) ?_)|(refine ZRG ?_;first|refine Eb ?_|refine Ec ?_|refine Ed ?_|refine Ee ?_|refine Ef ?_|refine Eg ?_|refine Eh ?_|refine uR ?_|refine uJ [1,2,3,4] (c2) ?_)|refine uC ?_|refine D5 ?_);exact zk.1)|fail):p:=h ⟨k⟩
theorem B1 {c:Prop} (x:c) (h:c→p:=by intro x;first|(exfalso;omega)|((first|exact Fin.q x (.cons (.tmp rfl) (.cons (.tmp rfl) .nil)) []|refine Fin.q x (.cons (.tmp rfl) (.cons (.tmp rfl) .nil)) [] (hr:=(.tupL (.cons (.t ?_) (.cons (.t ?_) .nil))))|refine Fin.mkv (rs:=_) x (.cons (.tmp rfl) (.cons (.tmp rfl) .nil)) [] (by decide) rfl ?_ ?_ ?_<;>repeat' (first|exact ZE1|refine ZE2 ?_ ?_|refine ZE3 ?_|exact ZE4|fail)))|fail):p:=h x
theorem B2 (k:q) (h:ZQ q→p:=by intro zk;first|(refine ZEN Tryz.func277 Tryz.ntmps277 ?_;exact zk.1)|fail):p:=h ⟨k⟩
theorem B3 (k:q) (h:ZQ q→p:=by intro zk;first|(refine ZEN Tryz.func250 Tryz.ntmps250 ?_;exact zk.1)|fail):p:=h ⟨k⟩
theorem B4 (k:q) (h:ZQ q→p:=by intro zk;first|((first|(refine ZAL ?_;first|(refine kL 3146 rfl ?_;first|(refine uK (inR_t ?zq0) ?_;(case zq0=>assumption)))|refine uA ?_)|refine uC ?_);exact zk.1)|fail):p:=h ⟨k⟩
theorem B5 (k:q) (h:ZQ q→p:=by intro zk;first|((first|refine AW.drawU (id:=3) mixed 0 qR ?_|refine AW.drawU (id:=12) mixed 0 qR ?_|refine AW.drawU (id:=18) mixed 0 qR ?_|refine AW.drawU (id:=22) mixed 0 qR ?_);exact zk.1)|fail):p:=h ⟨k⟩
theorem B6 {c:Prop} (x:c) (h:c→p:=by intro x;first|(exfalso;omega)|((first|exact Fin.q x (.cons (.agg rfl rfl ud45 rfl inf45 (us:=[_,_]) rfl rfl) (.cons (.tmp rfl) .nil)) []|refine Fin.q x (.cons (.agg rfl rfl ud45 rfl inf45 (us:=[_,_]) rfl rfl) (.cons (.tmp rfl) .nil)) [] (hr:=(.tupL (.cons (.t ?_) (.cons (.t ?_) .nil))))|refine Fin.mkv (rs:=_) x (.cons (.agg rfl rfl ud45 rfl inf45 (us:=[_,_]) rfl rfl) (.cons (.tmp rfl) .nil)) [] (by decide) rfl ?_ ?_ ?_<;>repeat' (first|exact ZE1|refine ZE2 ?_ ?_|refine ZE3 ?_|exact ZE4|fail)))|fail):p:=h x
theorem B7 {c:Prop} (x:c) (h:c→p:=by intro x;first|exact Fin.q x (.cons (.agg rfl rfl ud53 rfl inf53 (us:=[_,_,_,_]) rfl rfl) .nil) []|fail):p:=h x
theorem B8 (k:q) (h:ZQ q→p:=by intro zk;first|(refine ZEN Tryz.func121 Tryz.ntmps121 ?_;exact zk.1)|fail):p:=h ⟨k⟩
theorem B9 (k:q) (h:ZQ q→p:=by intro zk;first|(refine ZEN Tryz.func292 Tryz.ntmps292 ?_;exact zk.1)|fail):p:=h ⟨k⟩
theorem Bb (k:q) (h:ZQ q→p:=by intro zk;first|((refine kL 5097 rfl ?_;first|refine A_shr rfl rfl 159 159 _ _ rfl rfl rfl (by decide) (fdiv_lit (m:=2) rfl (by decide)) ?_);exact zk.1)|fail):p:=h ⟨k⟩
theorem Bc (k:q) (h:ZQ q→p:=by intro zk;first|((first|(refine ZAL ?_;first|refine uA ?_|refine uK (cF) ?_)|refine uC ?_);exact zk.1)|fail):p:=h ⟨k⟩
theorem Be (k:q) (h:ZQ q→p:=by intro zk;first|((refine kR 2991 rfl ?_;first|refine R_lit rfl rfl 93 1 _ rfl ud93 inf101 (.cons rfl .nil) (els:=[[_,_,_,_,_]]) rfl bG rfl (fT rfl) (ZbT rfl) (ZbT rfl) qh qN ?_);exact zk.1)|fail):p:=h ⟨k⟩
theorem Bf (k:q) (h:ZQ q→p:=by intro zk;first|((refine kR 3023 rfl ?_;first|refine R_lit rfl rfl 94 1 _ rfl ud94 inf167 (.cons rfl .nil) (els:=[[_,_,_,_]]) rfl bG rfl (fT rfl) (ZbT rfl) (ZbT rfl) qh qN ?_);exact zk.1)|fail):p:=h ⟨k⟩
theorem Bh (k:q) (h:ZQ q→p:=by intro zk;first|((first|refine AW.drawU (id:=7) mixed 4 qR ?_|refine AW.drawU (id:=11) mixed 4 qR ?_);exact zk.1)|fail):p:=h ⟨k⟩
theorem Bi (k:q) (h:ZQ q→p:=by intro zk;first|(refine ZEN Tryz.func307 Tryz.ntmps307 ?_;exact zk.1)|fail):p:=h ⟨k⟩
theorem Bj (k:q) (h:ZQ q→p:=by intro zk;first|((refine kL 1263 rfl ?_;first|refine A_lit rfl rfl 39 1 _ rfl ud39 inf46 (.cons rfl .nil) (els:=[[_]]) rfl (by first|exact (rfl:_=List.map tU [_])|exact qN) rfl (fT rfl) (ZbT rfl) (ZbT rfl) (.push qL qN) ?_);exact zk.1)|fail):p:=h ⟨k⟩
theorem Bk (k:q) (h:ZQ q→p:=by intro zk;first|((refine kR 1519 rfl ?_;first|refine R_lit rfl rfl 47 1 _ rfl ud47 inf65 (.cons rfl .nil) (els:=[[_,_,_,_,_,_,_,_]]) rfl bG rfl (fT rfl) (ZbT rfl) (ZbT rfl) qh qN ?_);exact zk.1)|fail):p:=h ⟨k⟩
theorem Bl (k:q) (h:ZQ q→p:=by intro zk;first|(refine ZEN Tryz.func122 Tryz.ntmps122 ?_;exact zk.1)|fail):p:=h ⟨k⟩
theorem Bm {c q1 q2 q3:Prop} (x:c) (k1:q1) (k2:q2) (k3:q3) (h:c→ZQ q1→ZQ q2→ZQ q3→p:=by intro x z1 z2 z3;first|exact Fin.mkv (rs:=_) x (.cons (.agg rfl rfl ud125 rfl inf125 (us:=[_,_,_]) rfl rfl) .nil) [3,4] (by decide) rfl z1.1 z2.1 z3.1|fail):p:=h x ⟨k1⟩ ⟨k2⟩ ⟨k3⟩
theorem Bn (k:q) (h:ZQ q→p:=by intro zk;first|(refine ZEN Tryz.func194 Tryz.ntmps194 ?_;exact zk.1)|fail):p:=h ⟨k⟩
theorem Bo (k:q) (h:ZQ q→p:=by intro zk;first|(refine ZEN Tryz.func93 Tryz.ntmps93 ?_;exact zk.1)|fail):p:=h ⟨k⟩
theorem Bq (k:q) (h:ZQ q→p:=by intro zk;first|((refine kR 1481 rfl ?_;first|refine R_shl rfl rfl 46 159 _ _ rfl rfl rfl (by decide) (shl_lit (m:=2) rfl bT) ?_|refine R_bits rfl rfl .or 46 46 _ _ rfl rfl rfl rfl (or_sum 1 (M:=2) rfl (by omega) (by omega) (by omega) (by omega) (by omega) (by omega)) ?_|refine R_bits rfl rfl .or 46 46 _ _ rfl rfl rfl rfl (or_sum' 1 (M:=2) rfl (by omega) (by omega) (by omega) (by omega) (by omega) (by omega)) ?_|refine R_bits rfl rfl .or 46 46 _ _ rfl rfl rfl rfl (or_sum 4 (M:=16) rfl (by omega) (by omega) (by omega) (by omega) (by omega) (by omega)) ?_|refine R_bits rfl rfl .or 46 46 _ _ rfl rfl rfl rfl (or_sum' 4 (M:=16) rfl (by omega) (by omega) (by omega) (by omega) (by omega) (by omega)) ?_|refine R_bits rfl rfl .or 46 46 _ _ rfl rfl rfl rfl (or_sum 32 (M:=4294967296) rfl (by omega) (by omega) (by omega) (by omega) (by omega) (by omega)) ?_|refine R_bits rfl rfl .or 46 46 _ _ rfl rfl rfl rfl (or_sum' 32 (M:=4294967296) rfl (by omega) (by omega) (by omega) (by omega) (by omega) (by omega)) ?_|refine R_shl rfl rfl 46 159 _ _ rfl rfl rfl (by decide) (shl_lit (m:=16) rfl bT) ?_|refine R_shl rfl rfl 46 159 _ _ rfl rfl rfl (by decide) (shl_lit (m:=4294967296) rfl bT) ?_|refine R_shl rfl rfl 46 159 _ _ rfl rfl rfl dI rfl ?_|refine R_bits rfl rfl .or 46 46 _ _ rfl rfl rfl rfl rfl ?_);exact zk.1)|fail):p:=h ⟨k⟩
theorem Br (k:q) (h:ZQ q→p:=by intro zk;first|((first|(refine ZAL ?_;first|refine uA ?_|refine uI [0,1,2,3] (c1) ?_)|refine uC ?_);exact zk.1)|fail):p:=h ⟨k⟩
theorem Bs (k:q) (h:ZQ q→p:=by intro zk;first|((first|refine uA ?_|refine uR ?_|refine uC ?_|refine AW.drawU (id:=1) mixed 0 qR ?_);exact zk.1)|fail):p:=h ⟨k⟩
theorem Bt (k:q) (h:ZQ q→p:=by intro zk;first|(refine ZEN Tryz.func74 Tryz.ntmps74 ?_;exact zk.1)|fail):p:=h ⟨k⟩
theorem Bu (k:q) (h:ZQ q→p:=by intro zk;first|((first|refine AW.drawU (id:=5) mixed 6 qR ?_|refine AW.drawU (id:=11) mixed 6 qR ?_|refine AW.drawU (id:=14) mixed 4 qR ?_);exact zk.1)|fail):p:=h ⟨k⟩
theorem Bv {c:Prop} (x:c) (h:c→p:=by intro x;first|(exfalso;omega)|(exact Fin.q x (.cons (.tmp rfl) (.cons (.tmp rfl) .nil)) [])|fail):p:=h x
theorem Bw (k:q) (h:ZQ q→p:=by intro zk;first|(refine ZEN Tryz.func295 Tryz.ntmps295 ?_;exact zk.1)|fail):p:=h ⟨k⟩
theorem Bx {c:Prop} (x:c) (h:c→p:=by intro x;first|(exfalso;omega)|(exact Fin.q x (.cons (.agg rfl rfl ud97 rfl inf97 (us:=[_,_,_,_]) rfl rfl) (.cons (.tmp rfl) .nil)) [])|fail):p:=h x
theorem By (k:q) (h:ZQ q→p:=by intro zk;first|(refine ZEN Tryz.func268 Tryz.ntmps268 ?_;exact zk.1)|fail):p:=h ⟨k⟩
theorem Bz {c:Prop} (x:c) (h:c→p:=by intro x;first|(exfalso;omega)|(exact Fin.q x (.cons (.agg rfl rfl ud125 rfl inf125 (us:=[_,_,_]) rfl rfl) (.cons (.tmp rfl) .nil)) [])|fail):p:=h x
theorem C0 (k:q) (h:ZQ q→p:=by intro zk;first|(refine ZEN Tryz.func89 Tryz.ntmps89 ?_;exact zk.1)|fail):p:=h ⟨k⟩
theorem C1 (k:q) (h:ZQ q→p:=by intro zk;first|(refine ZEN Tryz.func248 Tryz.ntmps248 ?_;exact zk.1)|fail):p:=h ⟨k⟩
theorem C2 (k:q) (h:ZQ q→p:=by intro zk;first|(refine ZEN Tryz.func176 Tryz.ntmps176 ?_;exact zk.1)|fail):p:=h ⟨k⟩
theorem C3 (k:q) (h:ZQ q→p:=by intro zk;first|((first|(refine ZAL ?_;first|refine uA ?_|refine uK (c2) ?_)|refine uC ?_);exact zk.1)|fail):p:=h ⟨k⟩
theorem C4 (k:q) (h:ZQ q→p:=by intro zk;first|(refine ZEN Tryz.func124 Tryz.ntmps124 ?_;exact zk.1)|fail):p:=h ⟨k⟩
theorem C5 (k:q) (h:ZQ q→p:=by intro zk;first|(refine ZEN Tryz.func125 Tryz.ntmps125 ?_;exact zk.1)|fail):p:=h ⟨k⟩
theorem C6 (k:q) (h:ZQ q→p:=by intro zk;first|(refine ZEN Tryz.func126 Tryz.ntmps126 ?_;exact zk.1)|fail):p:=h ⟨k⟩
theorem C7 (k:q) (h:ZQ q→p:=by intro zk;first|(refine ZEN Tryz.func52 Tryz.ntmps52 ?_;exact zk.1)|fail):p:=h ⟨k⟩
theorem C8 (k:q) (h:ZQ q→p:=by intro zk;first|(refine ZEN Tryz.func53 Tryz.ntmps53 ?_;exact zk.1)|fail):p:=h ⟨k⟩
theorem C9 (k:q) (h:ZQ q→p:=by intro zk;first|((first|(refine ZAL ?_;first|refine uA ?_|refine uI [0,1,2,3,4,5,6,7,8,9,10] (c1) ?_)|refine uC ?_);exact zk.1)|fail):p:=h ⟨k⟩
theorem Ca (k:q) (h:ZQ q→p:=by intro zk;first|(refine ZEN Tryz.func13 Tryz.ntmps13 ?_;exact zk.1)|fail):p:=h ⟨k⟩
theorem Cb (k:q) (h:ZQ q→p:=by intro zk;first|((first|(refine ZAL ?_;first|refine Ac ?_|refine Al ?_|refine uA ?_)|refine uC ?_);exact zk.1)|fail):p:=h ⟨k⟩
theorem Cc (k:q) (h:ZQ q→p:=by intro zk;first|((first|(refine ZAL ?_;first|refine uA ?_|refine uK (cP) ?_)|refine uC ?_);exact zk.1)|fail):p:=h ⟨k⟩
theorem Ce (k:q) (h:ZQ q→p:=by intro zk;first|((first|(refine ZAL ?_;first|refine uA ?_|refine uK (wcopy_c l hl) ?_|refine uK (cA) ?_)|refine uC ?_);exact zk.1)|fail):p:=h ⟨k⟩
theorem Cf (k:q) (h:ZQ q→p:=by intro zk;first|((first|(refine ZAL ?_;first|refine uA ?_|refine uK (cH) ?_)|refine uR ?_|refine uC ?_|refine AW.drawU (id:=5) mixed 0 qR ?_);exact zk.1)|fail):p:=h ⟨k⟩
theorem Cg (k:q) (h:ZQ q→p:=by intro zk;first|((first|refine uA ?_|refine uR ?_|refine uC ?_|refine AW.drawU (id:=4) mixed 2 qR ?_);exact zk.1)|fail):p:=h ⟨k⟩
theorem Ch (k:q) (h:ZQ q→p:=by intro zk;first|((first|(refine ZAL ?_;first|refine Bb ?_|refine uA ?_)|refine uR ?_|refine uC ?_|refine AW.drawU (id:=5) mixed 2 qR ?_);exact zk.1)|fail):p:=h ⟨k⟩
theorem Ci (k:q) (h:ZQ q→p:=by intro zk;first|((first|(refine ZAL ?_;first|refine Bb ?_|refine uA ?_)|refine uR ?_|refine uC ?_|refine AW.drawU (id:=17) mixed 2 qR ?_);exact zk.1)|fail):p:=h ⟨k⟩
theorem Cj (k:q) (h:ZQ q→p:=by intro zk;first|((first|(refine ZAL ?_;first|refine Bb ?_|refine uA ?_)|refine uC ?_);exact zk.1)|fail):p:=h ⟨k⟩
theorem Ck (k:q) (h:ZQ q→p:=by intro zk;first|((first|(refine ZAL ?_;first|refine uA ?_|refine uI [0] (cM) ?_)|refine uC ?_);exact zk.1)|fail):p:=h ⟨k⟩
theorem Cl (k:q) (h:ZQ q→p:=by intro zk;first|((first|(refine ZAL ?_;first|refine uA ?_|(first|refine uK (c1) ?_|refine uK (c2) ?_))|refine uC ?_);exact zk.1)|fail):p:=h ⟨k⟩
theorem Cm (k:q) (h:ZQ q→p:=by intro zk;first|((refine kL 1263 rfl ?_;first|refine A_lit rfl rfl 39 1 _ rfl ud39 inf46 (.cons rfl .nil) (els:=[[_]]) rfl (by exact (rfl:_=List.map tU [_])) rfl (fT rfl) (ZbT rfl) (ZbT rfl) (.push qL qN) ?_);exact zk.1)|fail):p:=h ⟨k⟩
theorem Cn (k:q) (h:ZQ q→p:=by intro zk;first|((first|(refine ZAL ?_;first|refine uA ?_|refine uK (cB) ?_)|refine uC ?_);exact zk.1)|fail):p:=h ⟨k⟩
theorem Co (k:q) (h:ZQ q→p:=by intro zk;first|((refine kL 12 rfl ?_;first|refine A_append_nlsub rfl rfl _ _ 30 rfl ud30 inf141 rfl rfl rfl rfl aK qB qB iW.symm (.push qL qN) ?_);exact zk.1)|fail):p:=h ⟨k⟩
theorem Cp (k:q) (h:ZQ q→p:=by intro zk;first|((refine kL 1481 rfl ?_;first|refine A_shl rfl rfl 46 159 _ _ rfl rfl rfl (by decide) (shl_lit (m:=256) rfl bT) ?_|refine A_bits rfl rfl .or 46 46 _ _ rfl rfl rfl rfl (or_sum 8 (M:=256) rfl (by omega) (by omega) (by omega) (by omega) (by omega) (by omega)) ?_|refine A_bits rfl rfl .or 46 46 _ _ rfl rfl rfl rfl (or_sum' 8 (M:=256) rfl (by omega) (by omega) (by omega) (by omega) (by omega) (by omega)) ?_|refine A_bits rfl rfl .or 46 46 _ _ rfl rfl rfl rfl (or_sum 16 (M:=65536) rfl (by omega) (by omega) (by omega) (by omega) (by omega) (by omega)) ?_|refine A_bits rfl rfl .or 46 46 _ _ rfl rfl rfl rfl (or_sum' 16 (M:=65536) rfl (by omega) (by omega) (by omega) (by omega) (by omega) (by omega)) ?_|refine A_bits rfl rfl .or 46 46 _ _ rfl rfl rfl rfl (or_sum 32 (M:=4294967296) rfl (by omega) (by omega) (by omega) (by omega) (by omega) (by omega)) ?_|refine A_bits rfl rfl .or 46 46 _ _ rfl rfl rfl rfl (or_sum' 32 (M:=4294967296) rfl (by omega) (by omega) (by omega) (by omega) (by omega) (by omega)) ?_|refine A_shl rfl rfl 46 159 _ _ rfl rfl rfl (by decide) (shl_lit (m:=65536) rfl bT) ?_|refine A_shl rfl rfl 46 159 _ _ rfl rfl rfl (by decide) (shl_lit (m:=4294967296) rfl bT) ?_|refine A_shl rfl rfl 46 159 _ _ rfl rfl rfl dI rfl ?_|refine A_bits rfl rfl .or 46 46 _ _ rfl rfl rfl rfl rfl ?_);exact zk.1)|fail):p:=h ⟨k⟩
theorem Cq (k:q) (h:ZQ q→p:=by intro zk;first|((refine kL 1481 rfl ?_;first|refine A_bits rfl rfl .and 46 46 _ _ rfl rfl rfl rfl (and_lit 8 (M:=256) rfl rfl (by omega) (by omega) (by omega)) ?_|refine A_shr rfl rfl 46 159 _ _ rfl rfl rfl (by decide) (fdiv_lit (m:=65536) rfl (by decide)) ?_|refine A_bits rfl rfl .and 46 46 _ _ rfl rfl rfl rfl (and_lit 16 (M:=65536) rfl rfl (by omega) (by omega) (by omega)) ?_|refine A_shr rfl rfl 46 159 _ _ rfl rfl rfl (by decide) (fdiv_lit (m:=4294967296) rfl (by decide)) ?_|refine A_shr rfl rfl 46 159 _ _ rfl rfl rfl (by decide) (fdiv_lit (m:=4096) rfl (by decide)) ?_|refine A_bits rfl rfl .and 46 46 _ _ rfl rfl rfl rfl (and_lit 1 (M:=2) rfl rfl (by omega) (by omega) (by omega)) ?_|refine A_shr rfl rfl 46 159 _ _ rfl rfl rfl (by decide) (fdiv_lit (m:=256) rfl (by decide)) ?_|refine A_bits rfl rfl .and 46 46 _ _ rfl rfl rfl rfl rfl ?_|refine A_shr rfl rfl 46 159 _ _ rfl rfl rfl dI rfl ?_);exact zk.1)|fail):p:=h ⟨k⟩
theorem Cr (k:q) (h:ZQ q→p:=by intro zk;first|((refine kL 975 rfl ?_;first|refine A_lit rfl rfl 30 1 _ rfl ud30 inf141 (.cons rfl .nil) (els:=[[_,_,_]]) rfl bG rfl (fT rfl) (ZbT rfl) (ZbT rfl) (.push qL qN) ?_);exact zk.1)|fail):p:=h ⟨k⟩
theorem Cs (k:q) (h:ZQ q→p:=by intro zk;first|((refine kR 1481 rfl ?_;first|refine R_shr rfl rfl 46 159 _ _ rfl rfl rfl (by decide) (fdiv_lit (m:=256) rfl (by decide)) ?_|refine R_bits rfl rfl .and 46 46 _ _ rfl rfl rfl rfl (and_lit 4 (M:=16) rfl rfl (by omega) (by omega) (by omega)) ?_|refine R_shr rfl rfl 46 159 _ _ rfl rfl rfl dI rfl ?_|refine R_bits rfl rfl .and 46 46 _ _ rfl rfl rfl rfl rfl ?_);exact zk.1)|fail):p:=h ⟨k⟩
theorem Ct (k:q) (h:ZQ q→p:=by intro zk;first|((first|((with_reducible refine kAW ?_);refine ufB 6 0 ?_)|refine uA ?_|(refine ZRG ?_;first|refine Af ?_|refine uR ?_|refine uJ1 0 [1,2,3,4] (cn) ?_|refine uJ1 0 [1,2,3,4] (c1) ?_|refine AZ (cc) ?_|refine uJ1 0 [1,2,3,4] (cs) ?_|refine uJ [0,1,2,3,4] (cd) ?_)|refine uC ?_|refine Fe ?_);exact zk.1)|fail):p:=h ⟨k⟩
theorem Cu (k:q) (h:ZQ q→p:=by intro zk;first|((first|refine AW.drawU (id:=2) mixed 0 qR ?_|refine AW.drawU (id:=3) mixed 0 qR ?_|refine AW.drawU (id:=7) mixed 2 qR ?_|refine AW.drawU (id:=13) mixed 0 qR ?_|refine AW.drawU (id:=14) mixed 2 qR ?_);exact zk.1)|fail):p:=h ⟨k⟩
theorem Cv (k:q) (h:ZQ q→p:=by intro zk;first|((first|refine AW.drawU (id:=2) mixed 0 qR ?_|refine AW.drawU (id:=6) mixed 0 qR ?_|refine AW.drawU (id:=11) mixed 0 qR ?_|refine AW.drawU (id:=14) mixed 0 qR ?_);exact zk.1)|fail):p:=h ⟨k⟩
theorem Cw (k:q) (h:ZQ q→p:=by intro zk;first|((first|refine AW.drawU (id:=0) mixed 0 qR ?_|refine AW.drawU (id:=3) mixed 0 qR ?_|refine AW.drawU (id:=8) mixed 0 qR ?_|refine AW.drawU (id:=12) mixed 0 qR ?_|refine AW.drawU (id:=16) mixed 0 qR ?_);exact zk.1)|fail):p:=h ⟨k⟩
theorem Cx (k:q) (h:ZQ q→p:=by intro zk;first|((first|refine AW.drawU (id:=4) mixed 0 qR ?_|refine AW.drawU (id:=6) mixed 0 qR ?_|refine AW.drawU (id:=9) mixed 0 qR ?_|refine AW.drawU (id:=10) mixed 0 qR ?_|refine AW.drawU (id:=12) mixed 0 qR ?_|refine AW.drawU (id:=20) mixed 0 qR ?_|refine AW.drawU (id:=23) mixed 2 qR ?_|refine AW.drawU (id:=25) mixed 0 qR ?_|refine AW.drawU (id:=26) mixed 0 qR ?_);exact zk.1)|fail):p:=h ⟨k⟩
theorem Cy (k:q) (h:ZQ q→p:=by intro zk;first|((first|(refine ZAL ?_;first|refine uA ?_|refine uI [0,1,2,3,4] (c2) ?_|refine uI [0,1,2,3,4] (c1) ?_|refine uK (ce) ?_)|(refine ZRG ?_;first|refine Af ?_|refine uR ?_|refine AZ (ce) ?_|refine AZ (cn) ?_)|refine uC ?_|refine Cx ?_);exact zk.1)|fail):p:=h ⟨k⟩
theorem Cz (k:q) (h:ZQ q→p:=by intro zk;first|((first|refine AW.drawU (id:=3) mixed 0 qR ?_|refine AW.drawU (id:=6) mixed 0 qR ?_|refine AW.drawU (id:=9) mixed 0 qR ?_|refine AW.drawU (id:=12) mixed 0 qR ?_);exact zk.1)|fail):p:=h ⟨k⟩
theorem D1 {c:Prop} (x:c) (h:c→p:=by intro x;first|(exfalso;omega)|((first|exact Fin.q x (.cons (.agg rfl rfl ud145 rfl inf145 (us:=[_,_,_,_,_,_,_]) rfl rfl) (.cons (.tmp rfl) .nil)) []|refine Fin.q x (.cons (.agg rfl rfl ud145 rfl inf145 (us:=[_,_,_,_,_,_,_]) rfl rfl) (.cons (.tmp rfl) .nil)) [] (hr:=(.tupL (.cons (.t ?_) (.cons (.t ?_) .nil))))|refine Fin.mkv (rs:=_) x (.cons (.agg rfl rfl ud145 rfl inf145 (us:=[_,_,_,_,_,_,_]) rfl rfl) (.cons (.tmp rfl) .nil)) [] (by decide) rfl ?_ ?_ ?_<;>repeat' (first|exact ZE1|refine ZE2 ?_ ?_|refine ZE3 ?_|exact ZE4|fail)))|fail):p:=h x
theorem D2 (k:q) (h:ZQ q→p:=by intro zk;first|((first|(refine ZAL ?_;first|refine uA ?_|refine uK (c1) ?_)|refine uR ?_|refine uC ?_|(first|refine AW.drawU (id:=2) mixed 0 qR ?_|refine AW.drawU (id:=5) mixed 0 qR ?_));exact zk.1)|fail):p:=h ⟨k⟩
theorem D3 (k:q) (h:ZQ q→p:=by intro zk;first|((first|(refine ZAL ?_;first|refine Ea ?_|refine uA ?_|refine uI [0,1,2,3,4,5,6,7,8,9,10] (c1) ?_)|(refine ZRG ?_;first|refine Eb ?_|refine Ec ?_|refine Ed ?_|refine Ee ?_|refine Ef ?_|refine Eg ?_|refine Eh ?_|refine uR ?_|refine uJ [1,2,3,4] (c2) ?_)|refine uC ?_|refine D5 ?_);exact zk.1)|fail):p:=h ⟨k⟩
theorem D4 (k:q) (h:ZQ q→p:=by intro zk;first|((first|(refine ZAL ?_;first|refine Ea ?_|refine uA ?_|refine uI [0,1,2,3,4,5,6,7,8,9,10] (c1) ?_|refine uI [0,1,2,3,4,5,6,7,8,9,10] (c3) ?_)|(refine ZRG ?_;first|refine Eb ?_|refine Ec ?_|refine Ed ?_|refine Ee ?_|refine Ef ?_|refine Eg ?_|refine Eh ?_|refine uR ?_|refine uJ [1,2,3,4] (c2) ?_|refine AZ (cg) ?_)|refine uC ?_|refine D5 ?_);exact zk.1)|fail):p:=h ⟨k⟩
theorem D5 (k:q) (h:ZQ q→p:=by intro zk;first|((first|refine AW.drawU (id:=7) mixed 0 qR ?_|refine AW.drawU (id:=8) mixed 2 qR ?_|refine AW.drawU (id:=9) mixed 0 qR ?_|refine AW.drawU (id:=11) mixed 2 qR ?_|refine AW.drawU (id:=15) mixed 0 qR ?_);exact zk.1)|fail):p:=h ⟨k⟩
theorem D6 (k:q) (h:ZQ q→p:=by intro zk;first|((first|refine AW.drawU (id:=7) mixed 6 qR ?_|refine AW.drawU (id:=12) mixed 4 qR ?_);exact zk.1)|fail):p:=h ⟨k⟩
theorem D7 (k:q) (h:ZQ q→p:=by intro zk;first|((refine kR 1263 rfl ?_;first|refine R_lit rfl rfl 39 1 _ rfl ud39 inf46 (.cons rfl .nil) (els:=[[_]]) rfl (by first|exact (rfl:_=List.map tU [_])|exact qN) rfl (fT rfl) (ZbT rfl) (ZbT rfl) qh qN ?_);exact zk.1)|fail):p:=h ⟨k⟩
theorem D8 {c:Prop} (x:c) (h:c→p:=by intro x;first|exact Fin.q x (.cons (.agg rfl rfl ud32 rfl inf32 (us:=[_,_,_,_,_]) rfl rfl) (.cons (.tmp rfl) .nil)) []|fail):p:=h x
theorem D9 {c q1 q2:Prop} (x:c) (k1:q1) (k2:q2) (h:c→ZQ q1→ZQ q2→p:=by intro x z1 z2;first|exact Fin.q x (.cons (.agg rfl rfl ud32 rfl inf32 (us:=[_,_,_,_,_]) rfl rfl) (.cons (.tmp rfl) .nil)) [] (hr:=(.tupL (.cons (.t z1.1) (.cons (.t z2.1) .nil))))|fail):p:=h x ⟨k1⟩ ⟨k2⟩
theorem Da {c q1 q2 q3:Prop} (x:c) (k1:q1) (k2:q2) (k3:q3) (h:c→ZQ q1→ZQ q2→ZQ q3→p:=by intro x z1 z2 z3;first|exact Fin.mkv (rs:=_) x (.cons (.agg rfl rfl ud32 rfl inf32 (us:=[_,_,_,_,_]) rfl rfl) (.cons (.tmp rfl) .nil)) [] (by decide) rfl z1.1 z2.1 z3.1|fail):p:=h x ⟨k1⟩ ⟨k2⟩ ⟨k3⟩
theorem Db {c:Prop} (x:c) (h:c→p:=by intro x;first|exact Fin.q x (.cons (.agg rfl rfl ud32 rfl inf32 (us:=[_,_,_,_,_]) rfl rfl) (.cons (.tmp rfl) .nil)) [2]|fail):p:=h x
theorem Dc {c q1 q2:Prop} (x:c) (k1:q1) (k2:q2) (h:c→ZQ q1→ZQ q2→p:=by intro x z1 z2;first|exact Fin.q x (.cons (.agg rfl rfl ud32 rfl inf32 (us:=[_,_,_,_,_]) rfl rfl) (.cons (.tmp rfl) .nil)) [2] (hr:=(.tupL (.cons (.t z1.1) (.cons (.t z2.1) .nil))))|fail):p:=h x ⟨k1⟩ ⟨k2⟩
theorem Dd {c q1 q2 q3:Prop} (x:c) (k1:q1) (k2:q2) (k3:q3) (h:c→ZQ q1→ZQ q2→ZQ q3→p:=by intro x z1 z2 z3;first|exact Fin.mkv (rs:=_) x (.cons (.agg rfl rfl ud32 rfl inf32 (us:=[_,_,_,_,_]) rfl rfl) (.cons (.tmp rfl) .nil)) [2] (by decide) rfl z1.1 z2.1 z3.1|fail):p:=h x ⟨k1⟩ ⟨k2⟩ ⟨k3⟩
theorem De {c q1 q2 q3:Prop} (x:c) (k1:q1) (k2:q2) (k3:q3) (h:c→ZQ q1→ZQ q2→ZQ q3→p:=by intro x z1 z2 z3;first|exact Fin.mkv (rs:=_) x (.cons (.agg rfl rfl ud53 rfl inf53 (us:=[_,_,_,_]) rfl rfl) .nil) [] (by decide) rfl z1.1 z2.1 z3.1|fail):p:=h x ⟨k1⟩ ⟨k2⟩ ⟨k3⟩
theorem Df (k:q) (h:ZQ q→p:=by intro zk;first|((refine kL 719 rfl ?_;first|refine A_lit rfl rfl 22 1 _ rfl ud22 inf3 (.cons rfl .nil) (els:=[[_]]) rfl (by exact (rfl:_=List.map tI [_])) rfl (fT rfl) (ZbT rfl) (ZbT rfl) (.push qL qN) ?_);exact zk.1)|fail):p:=h ⟨k⟩
theorem Dg (k:q) (h:ZQ q→p:=by intro zk;first|((refine kL 12 rfl ?_;first|refine A_append_nlsub rfl rfl _ _ 22 rfl ud22 inf3 rfl rfl rfl rfl aK qB qB iW.symm (.push qL qN) ?_);exact zk.1)|fail):p:=h ⟨k⟩
theorem Dh (k:q) (h:ZQ q→p:=by intro zk;first|((first|(refine ZAL ?_;first|refine uA ?_|refine uI [0,1,2,3,4] (c2) ?_)|(refine ZRG ?_;first|refine uR ?_|refine AZ (c1) ?_)|refine uC ?_|refine AW.drawU (id:=0) mixed 3 qR ?_);exact zk.1)|fail):p:=h ⟨k⟩
theorem Di {c:Prop} (x:c) (h:c→p:=by intro x;first|(exfalso;omega)|(exact Fin.q x (.cons (.tmp rfl) (.cons (.tmp rfl) .nil)) [1])|fail):p:=h x
theorem Dj {c:Prop} (x:c) (h:c→p:=by intro x;first|(exfalso;omega)|(exact Fin.q x (.cons (.tmp rfl) (.cons (.tmp rfl) .nil)) [0])|fail):p:=h x
theorem Dk {c:Prop} (x:c) (h:c→p:=by intro x;first|(exfalso;omega)|(exact Fin.q x (.cons (.tmp rfl) (.cons (.tmp rfl) (.cons (.tmp rfl) .nil))) [])|fail):p:=h x
theorem Dm (k:q) (h:ZQ q→p:=by intro zk;first|((first|refine uA ?_|refine uR ?_|refine uC ?_|refine AW.drawU (id:=3) mixed 0 qR ?_);exact zk.1)|fail):p:=h ⟨k⟩
theorem Dn (k:q) (h:ZQ q→p:=by intro zk;first|((first|(refine ZAL ?_;first|refine uA ?_|refine uK (cF) ?_|refine uK (cR) ?_|refine uK (hcc) ?_|refine uK (cW) ?_)|refine uC ?_);exact zk.1)|fail):p:=h ⟨k⟩
theorem Dp {c:Prop} (x:c) (h:c→p:=by intro x;first|(exfalso;omega)|(exact Fin.q x (.cons (.agg rfl rfl ud101 rfl inf101 (us:=[_,_,_,_,_]) rfl rfl) (.cons (.tmp rfl) (.cons (.agg rfl rfl ud53 rfl inf53 (us:=[_,_,_,_]) rfl rfl) (.cons (.tmp rfl) .nil)))) [3,4])|fail):p:=h x
theorem Dq {c:Prop} (x:c) (h:c→p:=by intro x;first|(exfalso;omega)|(exact Fin.q x (.cons (.agg rfl rfl ud101 rfl inf101 (us:=[_,_,_,_,_]) rfl rfl) (.cons (.tmp rfl) (.cons (.agg rfl rfl ud53 rfl inf53 (us:=[_,_,_,_]) rfl rfl) (.cons (.tmp rfl) .nil)))) [])|fail):p:=h x
theorem Dr (k:q) (h:ZQ q→p:=by intro zk;first|((first|(refine ZAL ?_;first|refine uA ?_|refine uK (hs) ?_)|(refine ZRG ?_;first|(refine kR 8970 rfl ?_;first|(refine uQ (clone_R d ?zq0) 3 ?_;(case zq0=>omega)))|refine uR ?_)|refine uC ?_|refine AW.drawU (id:=1) mixed 3 qR ?_);exact zk.1)|fail):p:=h ⟨k⟩
theorem Dt {c:Prop} (x:c) (h:c→p:=by intro x;first|exact Fin.q x (.cons (.agg rfl rfl ud125 rfl inf125 (us:=[_,_,_]) rfl rfl) .nil) [6,3]|fail):p:=h x
theorem Du (k:q) (h:ZQ q→p:=by intro zk;first|((first|(refine ZAL ?_;first|refine uA ?_|refine uK (cA) ?_)|refine uC ?_);exact zk.1)|fail):p:=h ⟨k⟩
theorem Dv (k:q) (h:ZQ q→p:=by intro zk;first|((first|(refine ZAL ?_;first|refine Cm ?_|refine uA ?_)|refine uC ?_);exact zk.1)|fail):p:=h ⟨k⟩
theorem Dw (k:q) (h:ZQ q→p:=by intro zk;first|((first|(refine ZAL ?_;first|refine uA ?_|refine uK (c2) ?_|refine uK (c1) ?_)|refine uC ?_);exact zk.1)|fail):p:=h ⟨k⟩
theorem Dx (k:q) (h:ZQ q→p:=by intro zk;first|((first|(refine ZAL ?_;first|refine uA ?_|refine uK (c1) ?_)|(refine ZRG ?_;first|refine uR ?_|refine AZ (c2) ?_)|refine uC ?_|refine AW.drawU (id:=2) mixed 0 qR ?_);exact zk.1)|fail):p:=h ⟨k⟩
theorem Dy (k:q) (h:ZQ q→p:=by intro zk;first|((first|(refine ZAL ?_;first|refine uA ?_|refine uI [0,1,2,3,4] (c2) ?_)|(refine ZRG ?_;first|refine Af ?_|refine Bk ?_|refine uR ?_|refine AZ (ce) ?_|refine uJ1 0 [1,2,3,4] (c1) ?_|refine uJ1 0 [1,2,3,4] (cd) ?_)|refine uC ?_|refine Cu ?_);exact zk.1)|fail):p:=h ⟨k⟩
theorem Dz {c:Prop} (x:c) (h:c→p:=by intro x;first|exact Fin.q x (.cons (.agg rfl rfl ud125 rfl inf125 (us:=[_,_,_]) rfl rfl) .nil) []|fail):p:=h x
theorem E0 (k:q) (h:ZQ q→p:=by intro zk;first|((first|(refine ZAL ?_;first|refine uA ?_|refine uI [0,1,2,3,4] (c2) ?_|refine uK (cq) ?_)|(refine ZRG ?_;first|refine Af ?_|refine Bk ?_|refine uR ?_|refine AZ (ce) ?_|refine uJ1 0 [1,2,3,4] (c1) ?_|refine AZ (cc) ?_)|refine uC ?_|refine Cu ?_);exact zk.1)|fail):p:=h ⟨k⟩
theorem E1 (k:q) (h:ZQ q→p:=by intro zk;first|((first|(refine ZAL ?_;first|refine uA ?_|refine uI [0,1,2,3,4] (c2) ?_)|(refine ZRG ?_;first|refine uR ?_|refine AZ (cd) ?_|refine AZ (ce) ?_|refine uJ1 0 [1,2,3,4] (c1) ?_)|refine uC ?_|refine Fj ?_);exact zk.1)|fail):p:=h ⟨k⟩
theorem E2 (k:q) (h:ZQ q→p:=by intro zk;first|((first|(refine ZAL ?_;first|refine uA ?_|refine uI [0,1,2,3,4] (cn) ?_|refine uI [0,1,2,3,4] (c1) ?_)|(refine ZRG ?_;first|refine uR ?_|refine uJ1 0 [1,2,3,4] (c1) ?_)|refine uC ?_|refine Ge ?_);exact zk.1)|fail):p:=h ⟨k⟩
theorem E3 (k:q) (h:ZQ q→p:=by intro zk;first|((refine kL 1 rfl ?_;first|((first|refine A_as (d:=4) rfl rfl rfl rfl ?_|refine A_move (d:=4) rfl rfl _ (.inr rfl) (y:=.sl _ _ _) rfl ?_|refine A_move (d:=4) rfl rfl _ (.inr rfl) (y:=.nl) rfl ?_|refine A_move (d:=4) rfl rfl _ (.inr rfl) (y:=.ptr _ _) rfl ?_|refine A_move (d:=4) rfl rfl _ (.inr rfl) (y:=.ln _) rfl ?_|refine A_move (d:=4) rfl rfl _ (.inr rfl) (y:=.lp _) rfl ?_|refine A_move (d:=4) rfl rfl _ (.inr rfl) (y:=.fn _ _ _) rfl ?_|refine A_move (d:=4) rfl rfl _ (.inr rfl) (y:=.sub _ _ _ _) rfl ?_|refine A_move (d:=4) rfl rfl _ (.inr rfl) (y:=.rp _ _ _ _) rfl ?_|refine A_move (d:=4) rfl rfl _ (.inr rfl) (y:=.agg _) rfl ?_|refine A_move (d:=4) rfl rfl _ (.inr rfl) (y:=.tup _) rfl ?_|refine A_move (d:=4) rfl rfl _ (.inr rfl) (y:=.mv _) rfl ?_|refine A_move (d:=4) rfl rfl _ (.inr rfl) (y:=.cl _) rfl ?_);(try refine uz 4 ?_)));exact zk.1)|fail):p:=h ⟨k⟩
theorem E4 (k:q) (h:ZQ q→p:=by intro zk;first|((first|(refine ZAL ?_;first|refine uA ?_|refine uI [0,1,2,3,4] (c2) ?_)|(refine ZRG ?_;first|refine uR ?_|refine AZ (cm) ?_|refine AZ (cr) ?_|refine uJ1 0 [1,2,3,4] (c1) ?_)|refine uC ?_|refine Cw ?_);exact zk.1)|fail):p:=h ⟨k⟩
theorem E5 (k:q) (h:ZQ q→p:=by intro zk;first|((first|(refine ZAL ?_;first|(refine kL 1481 rfl ?_;first|refine A_bits rfl rfl .and 46 46 _ _ rfl rfl rfl rfl (and_lit 16 (M:=65536) rfl rfl (by omega) (by omega) (by omega)) ?_|refine A_shr rfl rfl 46 159 _ _ rfl rfl rfl (by decide) (fdiv_lit (m:=65536) rfl (by decide)) ?_|refine A_bits rfl rfl .and 46 46 _ _ rfl rfl rfl rfl (and_lit 32 (M:=4294967296) rfl rfl (by omega) (by omega) (by omega)) ?_|refine A_bits rfl rfl .and 46 46 _ _ rfl rfl rfl rfl rfl ?_|refine A_shr rfl rfl 46 159 _ _ rfl rfl rfl dI rfl ?_)|refine uA ?_|refine uK (c1) ?_)|refine uC ?_);exact zk.1)|fail):p:=h ⟨k⟩
theorem E6 {c:Prop} (x:c) (h:c→p:=by intro x;first|(exfalso;omega)|((first|exact Fin.q x (.cons (.agg rfl rfl ud55 rfl inf55 (us:=[_,_,_,_,_,_,_,_,_,_,_,_,_,_,_,_,_,_,_,_,_,_,_,_,_,_,_,_,_,_,_,_,_,_]) rfl rfl) (.cons (.tmp rfl) .nil)) []|refine Fin.q x (.cons (.agg rfl rfl ud55 rfl inf55 (us:=[_,_,_,_,_,_,_,_,_,_,_,_,_,_,_,_,_,_,_,_,_,_,_,_,_,_,_,_,_,_,_,_,_,_]) rfl rfl) (.cons (.tmp rfl) .nil)) [] (hr:=(.tupL (.cons (.t ?_) (.cons (.t ?_) .nil))))|refine Fin.mkv (rs:=_) x (.cons (.agg rfl rfl ud55 rfl inf55 (us:=[_,_,_,_,_,_,_,_,_,_,_,_,_,_,_,_,_,_,_,_,_,_,_,_,_,_,_,_,_,_,_,_,_,_]) rfl rfl) (.cons (.tmp rfl) .nil)) [] (by decide) rfl ?_ ?_ ?_<;>repeat' (first|exact ZE1|refine ZE2 ?_ ?_|refine ZE3 ?_|exact ZE4|fail)))|fail):p:=h x
theorem E7 (k:q) (h:ZQ q→p:=by intro zk;first|((first|refine AW.drawU (id:=7) mixed 4 qR ?_|refine AW.drawU (id:=10) mixed 0 qR ?_);exact zk.1)|fail):p:=h ⟨k⟩
theorem E8 (k:q) (h:ZQ q→p:=by intro zk;first|((first|refine AW.drawU (id:=5) mixed 1 qR ?_|refine AW.drawU (id:=6) mixed 2 qR ?_|refine AW.drawU (id:=8) mixed 2 qR ?_);exact zk.1)|fail):p:=h ⟨k⟩
theorem E9 (k:q) (h:ZQ q→p:=by intro zk;first|((first|(refine ZAL ?_;first|refine uA ?_|refine uK (c1) ?_)|(refine ZRG ?_;first|refine Gf ?_|refine uR ?_)|refine uC ?_|refine E8 ?_);exact zk.1)|fail):p:=h ⟨k⟩
theorem Ea (k:q) (h:ZQ q→p:=by intro zk;first|((refine kL 99 rfl ?_;first|refine A_store_rp rfl rfl 3 _ _ rfl inf3 (by decide) rfl rfl aU rfl rfl rfl (ZbT rfl) aP qN ?_);exact zk.1)|fail):p:=h ⟨k⟩
theorem Eb (k:q) (h:ZQ q→p:=by intro zk;first|((refine kR 12 rfl ?_;first|refine R_append rfl rfl _ _ 42 rfl ud42 inf63 rfl rfl rfl cY aA qB qB (by first|exact app_map aG|exact app_one (f:=tI) (x:=_) aG|exact app_one (f:=cTk) (x:=y) aG|exact app_one (f:=cPu) (x:=g) aG|exact app_one (f:=cTn) (x:=⟨_,_,_⟩) aG|exact qN) qN qS ?_);exact zk.1)|fail):p:=h ⟨k⟩
theorem Ec (k:q) (h:ZQ q→p:=by intro zk;first|((refine kR 99 rfl ?_;first|refine R_store_rp rfl rfl 3 _ _ rfl inf3 (by decide) rfl rfl aU rfl rfl rfl (ZbT rfl) aP qN ?_);exact zk.1)|fail):p:=h ⟨k⟩
theorem Ed (k:q) (h:ZQ q→p:=by intro zk;first|((refine kR 1763 rfl ?_;first|refine R_store_rp rfl rfl 55 _ _ rfl inf55 (by decide) rfl rfl aU rfl rfl rfl (ZbT rfl) aP qN ?_);exact zk.1)|fail):p:=h ⟨k⟩
theorem Ee (k:q) (h:ZQ q→p:=by intro zk;first|((refine kR 4867 rfl ?_;first|refine R_store_rp rfl rfl 152 _ _ rfl inf152 (by decide) rfl rfl aU rfl rfl rfl (ZbT rfl) aP qN ?_);exact zk.1)|fail):p:=h ⟨k⟩
theorem Ef (k:q) (h:ZQ q→p:=by intro zk;first|((refine kR 1359 rfl ?_;first|refine R_lit rfl rfl 42 1 _ rfl ud42 inf63 (.cons rfl .nil) (els:=[[_,_,_]]) rfl (by first|exact (rfl:_=List.map tI [_])|exact (rfl:_=List.map cTk [y])|exact (rfl:_=List.map cPu [g])|exact (rfl:_=List.map cTn [⟨_,_,_⟩])|exact qN) rfl (fT rfl) (ZbT rfl) (ZbT rfl) qh qN ?_);exact zk.1)|fail):p:=h ⟨k⟩
theorem Eg (k:q) (h:ZQ q→p:=by intro zk;first|((refine kR 1347 rfl ?_;first|refine R_store_rp rfl rfl 42 _ _ rfl inf42 (by decide) rfl rfl aU rfl rfl rfl (ZbT rfl) aP qN ?_);exact zk.1)|fail):p:=h ⟨k⟩
theorem Eh (k:q) (h:ZQ q→p:=by intro zk;first|((refine kR 4643 rfl ?_;first|refine R_store_rp rfl rfl 145 _ _ rfl inf145 (by decide) rfl rfl aU rfl rfl rfl (ZbT rfl) aP qN ?_);exact zk.1)|fail):p:=h ⟨k⟩
theorem Ei (k:q) (h:ZQ q→p:=by intro zk;first|((first|refine AW.drawU (id:=1) mixed 0 qR ?_|refine AW.drawU (id:=2) mixed 4 qR ?_);exact zk.1)|fail):p:=h ⟨k⟩
theorem Ej (k:q) (h:ZQ q→p:=by intro zk;first|((first|refine AW.drawU (id:=4) mixed 4 qR ?_|refine AW.drawU (id:=5) mixed 4 qR ?_);exact zk.1)|fail):p:=h ⟨k⟩
theorem Ek (k:q) (h:ZQ q→p:=by intro zk;first|((first|(refine ZAL ?_;first|refine uA ?_|refine uI [0,1,2,3,4,5,6,7,8,9,10] (c1) ?_|refine uK (c2) ?_)|refine uC ?_);exact zk.1)|fail):p:=h ⟨k⟩
theorem El (k:q) (h:ZQ q→p:=by intro zk;first|((first|(refine ZAL ?_;first|refine Dg ?_|refine Eq ?_|refine uA ?_)|refine uC ?_);exact zk.1)|fail):p:=h ⟨k⟩
theorem Em (k:q) (h:ZQ q→p:=by intro zk;first|((first|(refine ZAL ?_;first|refine uA ?_|refine uI [0,1,2,3,4,5,6,7,8,9,10] (c0) ?_|refine uI [0,1,2,3,4,5,6,7,8,9,10] (ct) ?_|refine uI [0,1,2,3,4,5,6,7,8,9,10] (c1) ?_)|refine uC ?_);exact zk.1)|fail):p:=h ⟨k⟩
theorem En {c q1 q2 q3:Prop} (x:c) (k1:q1) (k2:q2) (k3:q3) (h:c→ZQ q1→ZQ q2→ZQ q3→p:=by intro x z1 z2 z3;first|exact Fin.mkv (rs:=_) x (.cons (.agg rfl rfl ud145 rfl inf145 (us:=[_,_,_,_,_,_,_]) rfl rfl) .nil) [4] (by decide) rfl z1.1 z2.1 z3.1|fail):p:=h x ⟨k1⟩ ⟨k2⟩ ⟨k3⟩
theorem Eo (k:q) (h:ZQ q→p:=by intro zk;first|((refine kL 4458 rfl ?_;first|(refine uK (pcopied_c p.own.index p.own.tag p.spent p.free p.old ?zq0 ?zq1) ?_;(case zq0=>omega);(case zq1=>omega)));exact zk.1)|fail):p:=h ⟨k⟩
theorem Ep (k:q) (h:ZQ q→p:=by intro zk;first|((first|(refine ZAL ?_;first|refine uA ?_|(first|refine uK (c1) ?_|refine uK (c2) ?_|refine uK (c3) ?_))|refine uC ?_);exact zk.1)|fail):p:=h ⟨k⟩
theorem Eq (k:q) (h:ZQ q→p:=by intro zk;first|((refine kL 719 rfl ?_;first|refine A_lit rfl rfl 22 1 _ rfl ud22 inf3 (.cons rfl .nil) (els:=[[_]]) rfl bG rfl (fT rfl) (ZbT rfl) (ZbT rfl) (.push qL qN) ?_);exact zk.1)|fail):p:=h ⟨k⟩
theorem Er (k:q) (h:ZQ q→p:=by intro zk;first|((first|(refine ZAL ?_;first|refine uA ?_|refine uI [0,1,2,3,4] (c1) ?_|refine uI [0,1,2,3,4] (c2) ?_)|(refine ZRG ?_;first|refine uR ?_|refine AZ (cw) ?_|refine uJ1 0 [1,2,3,4] (c1) ?_)|refine uC ?_|refine Bu ?_);exact zk.1)|fail):p:=h ⟨k⟩
theorem Es (k:q) (h:ZQ q→p:=by intro zk;first|((refine kL 963 rfl ?_;first|refine A_store_rp rfl rfl 30 _ _ rfl inf30 (by decide) rfl rfl aI rfl rfl rfl (ZbT rfl) bI qN ?_);exact zk.1)|fail):p:=h ⟨k⟩
theorem Et (k:q) (h:ZQ q→p:=by intro zk;first|((first|refine uA ?_|(refine ZRG ?_;first|refine uR ?_|refine ZQ1 (cF) ?_)|refine uC ?_|refine AW.drawU (id:=12) mixed 0 qR ?_);exact zk.1)|fail):p:=h ⟨k⟩
theorem Eu (k:q) (h:ZQ q→p:=by intro zk;first|((first|refine uA ?_|(refine ZRG ?_;first|refine uR ?_|refine ZQ1 (cF) ?_)|refine uC ?_|refine AW.drawU (id:=1) mixed 0 qR ?_);exact zk.1)|fail):p:=h ⟨k⟩
theorem Ev (k:q) (h:ZQ q→p:=by intro zk;first|((first|(refine ZAL ?_;first|refine Bb ?_|(refine kL 10410 rfl ?_;first|(refine uI [0] (cR ?zq0) ?_;(case zq0=>omega)))|(refine kL 10378 rfl ?_;first|(refine uI [0] (c2 ?zq0) ?_;(case zq0=>omega))|(refine uI [0] (c3 ?zq0) ?_;(case zq0=>omega)))|refine uA ?_)|refine uR ?_|refine uC ?_|refine AW.drawU (id:=35) mixed 2 qR ?_);exact zk.1)|fail):p:=h ⟨k⟩
theorem Ew (k:q) (h:ZQ q→p:=by intro zk;first|((first|(refine ZAL ?_;first|refine uA ?_|refine uI [0] (c1) ?_)|refine uC ?_|(with_reducible (refine wka ?_)));exact zk.1)|fail):p:=h ⟨k⟩
theorem Ex (k:q) (h:ZQ q→p:=by intro zk;first|((refine kR 6415 rfl ?_;first|refine R_lit rfl rfl 200 1 _ rfl ud200 inf239 (.cons rfl .nil) (els:=[[_,_,_,_,_]]) rfl (by first|exact (rfl:_=List.map tI [_])|exact qN) rfl (fT rfl) (ZbT rfl) (ZbT rfl) qh qN ?_);exact zk.1)|fail):p:=h ⟨k⟩
theorem Ey (k:q) (h:ZQ q→p:=by intro zk;first|((refine kR 719 rfl ?_;first|refine R_lit rfl rfl 22 1 _ rfl ud22 inf3 (.cons rfl .nil) (els:=[[_]]) rfl (by first|exact (rfl:_=List.map tI [_])|exact qN) rfl (fT rfl) (ZbT rfl) (ZbT rfl) qh qN ?_);exact zk.1)|fail):p:=h ⟨k⟩
theorem Ez (k:q) (h:ZQ q→p:=by intro zk;first|((first|refine AW.drawU (id:=6) mixed 1 qR ?_|refine AW.drawU (id:=7) mixed 2 qR ?_|refine AW.drawU (id:=12) mixed 1 qR ?_);exact zk.1)|fail):p:=h ⟨k⟩
theorem F0 (k:q) (h:ZQ q→p:=by intro zk;first|((first|(refine ZAL ?_;first|(refine kL 3118 rfl ?_;first|(refine zkD 23 rfl ?_;refine uA ?_;(try refine uz 23 ?_)))|refine Ag ?_|refine uA ?_|refine uK (c1) ?_)|(refine ZRG ?_;first|refine Be ?_|refine Bf ?_|refine uR ?_)|refine uC ?_|refine Bh ?_);exact zk.1)|fail):p:=h ⟨k⟩
theorem F3 (k:q) (h:ZQ q→p:=by intro zk;first|((first|(refine ZAL ?_;first|refine uA ?_|refine uK (cF) ?_|refine uK (cR) ?_|refine uK (cV) ?_)|refine uC ?_);exact zk.1)|fail):p:=h ⟨k⟩
theorem F4 (k:q) (h:ZQ q→p:=by intro zk;first|((first|(refine ZAL ?_;first|(refine kL 4014 rfl ?_;first|(refine zkD 24 rfl ?_;refine uA ?_;(try refine uz 24 ?_)))|refine uA ?_|refine uK (c1) ?_)|refine uR ?_|refine uC ?_|refine AW.drawU (id:=5) mixed 5 qR ?_);exact zk.1)|fail):p:=h ⟨k⟩
theorem F5 (k:q) (h:ZQ q→p:=by intro zk;first|((first|(refine ZAL ?_;first|refine uA ?_|refine uK (c0) ?_|refine uK (c1) ?_|refine uK (c2) ?_)|refine uC ?_);exact zk.1)|fail):p:=h ⟨k⟩
theorem F6 (k:q) (h:ZQ q→p:=by intro zk;first|((first|(refine ZAL ?_;first|refine Bb ?_|(refine kL 8906 rfl ?_;first|(refine uI [0] (cR ?zq0) ?_;(case zq0=>omega)))|(refine kL 8554 rfl ?_;first|(refine uI [0] (c2 ?zq0) ?_;(case zq0=>omega))|(refine uI [0] (c3 ?zq0) ?_;(case zq0=>omega)))|refine uA ?_)|refine uR ?_|refine uC ?_|refine AW.drawU (id:=35) mixed 2 qR ?_);exact zk.1)|fail):p:=h ⟨k⟩
theorem F7 (k:q) (h:ZQ q→p:=by intro zk;first|((refine kL 1 rfl ?_;first|((first|refine A_as (d:=4) rfl rfl rfl rfl ?_|refine A_move (d:=4) rfl rfl _ (.inr rfl) (y:=.sl _ _ _) rfl ?_|refine A_move (d:=4) rfl rfl _ (.inr rfl) (y:=.nl) rfl ?_|refine A_move (d:=4) rfl rfl _ (.inr rfl) (y:=.ptr _ _) rfl ?_|refine A_move (d:=4) rfl rfl _ (.inr rfl) (y:=.ln _) rfl ?_|refine A_move (d:=4) rfl rfl _ (.inr rfl) (y:=.lp _) rfl ?_|refine A_move (d:=4) rfl rfl _ (.inr rfl) (y:=.fn _ _ _) rfl ?_|refine A_move (d:=4) rfl rfl _ (.inr rfl) (y:=.sub _ _ _ _) rfl ?_|refine A_move (d:=4) rfl rfl _ (.inr rfl) (y:=.rp _ _ _ _) rfl ?_|refine A_move (d:=4) rfl rfl _ (.inr rfl) (y:=.agg _) rfl ?_|refine A_move (d:=4) rfl rfl _ (.inr rfl) (y:=.tup _) rfl ?_|refine A_move (d:=4) rfl rfl _ (.inr rfl) (y:=.mv _) rfl ?_|refine A_move (d:=4) rfl rfl _ (.inr rfl) (y:=.cl _) rfl ?_);(try refine uf 1 4 ?_)));exact zk.1)|fail):p:=h ⟨k⟩
theorem F8 (k:q) (h:ZQ q→p:=by intro zk;first|((first|(refine ZAL ?_;first|refine F7 ?_|refine Ac ?_|refine Cp ?_|refine Bj ?_|refine uA ?_)|refine uC ?_);exact zk.1)|fail):p:=h ⟨k⟩
theorem F9 (k:q) (h:ZQ q→p:=by intro zk;first|((first|(refine ZAL ?_;first|refine Co ?_|refine Cq ?_|refine Cr ?_|refine uA ?_)|(refine ZRG ?_;first|refine Cs ?_|refine uR ?_)|refine uC ?_|refine AW.drawU (id:=5) mixed 0 qR ?_);exact zk.1)|fail):p:=h ⟨k⟩
theorem Fa (k:q) (h:ZQ q→p:=by intro zk;first|((first|(refine ZAL ?_;first|refine uA ?_|refine uK (c1) ?_)|(refine ZRG ?_;first|refine uR ?_|refine ZQ1 (c2) ?_)|refine uC ?_|refine AW.drawU (id:=3) mixed 0 qR ?_);exact zk.1)|fail):p:=h ⟨k⟩
theorem Fb (k:q) (h:ZQ q→p:=by intro zk;first|((first|refine uA ?_|(refine ZRG ?_;first|refine uR ?_|refine AZ (c2) ?_)|refine uC ?_|refine AW.drawU (id:=3) mixed 0 qR ?_);exact zk.1)|fail):p:=h ⟨k⟩
theorem Fc (k:q) (h:ZQ q→p:=by intro zk;first|((first|refine AW.drawU (id:=3) mixed 0 qR ?_|refine AW.drawU (id:=6) mixed 2 qR ?_|refine AW.drawU (id:=8) mixed 0 qR ?_);exact zk.1)|fail):p:=h ⟨k⟩
theorem Fd (k:q) (h:ZQ q→p:=by intro zk;first|((first|((with_reducible refine kAW ?_);refine ufR (id:=7) 5 2 ?_)|(refine ZAL ?_;first|refine uA ?_|refine uK (co) ?_)|(refine ZRG ?_;first|refine Bk ?_|refine uR ?_|refine AZ (ca) ?_)|refine uC ?_|refine Fc ?_);exact zk.1)|fail):p:=h ⟨k⟩
theorem Fe (k:q) (h:ZQ q→p:=by intro zk;first|((first|refine AW.drawU (id:=1) mixed 0 qR ?_|refine AW.drawU (id:=4) mixed 2 qR ?_|refine AW.drawU (id:=6) mixed 0 qR ?_|refine AW.drawU (id:=8) mixed 1 qR ?_|refine AW.drawU (id:=9) mixed 0 qR ?_);exact zk.1)|fail):p:=h ⟨k⟩
theorem Ff (k:q) (h:ZQ q→p:=by intro zk;first|((first|(refine ZAL ?_;first|refine uA ?_|refine uI [0,1,2,3,4] (c2) ?_)|(refine ZRG ?_;first|refine Af ?_|refine uR ?_|refine uJ1 0 [1,2,3,4] (cn) ?_|refine uJ1 0 [1,2,3,4] (c1) ?_)|refine uC ?_|refine Fe ?_);exact zk.1)|fail):p:=h ⟨k⟩
theorem Fi (k:q) (h:ZQ q→p:=by intro zk;first|((first|((with_reducible refine kAW ?_);refine ufB 6 0 ?_)|refine uA ?_|(refine ZRG ?_;first|refine Af ?_|refine Bk ?_|refine uR ?_|refine uJ1 0 [1,2,3,4] (c1) ?_|refine AZ (cc) ?_|refine AZ (ce) ?_)|refine uC ?_|refine Cu ?_);exact zk.1)|fail):p:=h ⟨k⟩
theorem Fj (k:q) (h:ZQ q→p:=by intro zk;first|((first|refine AW.drawU (id:=0) mixed 0 qR ?_|refine AW.drawU (id:=2) mixed 0 qR ?_|refine AW.drawU (id:=6) mixed 0 qR ?_);exact zk.1)|fail):p:=h ⟨k⟩
theorem Fm (k:q) (h:ZQ q→p:=by intro zk;first|((first|(refine ZAL ?_;first|refine uA ?_|refine uK (cb) ?_|refine uI [0,1,2,3,4] (c2) ?_)|(refine ZRG ?_;first|refine uR ?_|refine AZ (cd) ?_|refine AZ (ce) ?_|refine uJ1 0 [1,2,3,4] (c1) ?_)|refine uC ?_|refine Fj ?_);exact zk.1)|fail):p:=h ⟨k⟩
theorem Fo (k:q) (h:ZQ q→p:=by intro zk;first|((first|(refine ZAL ?_;first|refine Ac ?_|refine Cp ?_|refine Bj ?_|refine uA ?_)|refine uC ?_);exact zk.1)|fail):p:=h ⟨k⟩
theorem Fp (k:q) (h:ZQ q→p:=by intro zk;first|((first|(refine ZAL ?_;first|refine uA ?_|refine uI [0,1,2,3,4] (cn) ?_|refine uI [0,1,2,3,4] (c2) ?_|refine uK (cl) ?_|refine uK (cc) ?_)|(refine ZRG ?_;first|(refine kR 2954 rfl ?_;first|(first|refine uQ (cw) 0 ?_|refine uQ (cw) 1 ?_|refine uQ (cw) 2 ?_|refine uQ (cw) 3 ?_|refine uQ (cw) 4 ?_|refine uQ (cw) 5 ?_|refine uQ (cw) 6 ?_|refine uQ (cw) 7 ?_|refine uQ (cw) 8 ?_|refine uQ (cw) 9 ?_|refine uQ (cw) 10 ?_|refine uQ (cw) 11 ?_|refine uQ (cw) 12 ?_|refine uQ (cw) 13 ?_)|(first|refine uQ (cv) 0 ?_|refine uQ (cv) 1 ?_|refine uQ (cv) 2 ?_|refine uQ (cv) 3 ?_|refine uQ (cv) 4 ?_|refine uQ (cv) 5 ?_|refine uQ (cv) 6 ?_|refine uQ (cv) 7 ?_|refine uQ (cv) 8 ?_|refine uQ (cv) 9 ?_|refine uQ (cv) 10 ?_|refine uQ (cv) 11 ?_|refine uQ (cv) 12 ?_|refine uQ (cv) 13 ?_))|refine uR ?_|refine uJ1 0 [1,2,3,4] (c1) ?_|refine uJ1 0 [1,2,3,4] (cd) ?_)|refine uC ?_|refine Ge ?_);exact zk.1)|fail):p:=h ⟨k⟩
theorem Fq (k:q) (h:ZQ q→p:=by intro zk;first|((first|(refine ZAL ?_;first|refine Ag ?_|refine uA ?_)|(refine ZRG ?_;first|refine uR ?_|refine AZ (ce) ?_|refine uJ1 0 [1,2,3,4] (c1) ?_)|refine uC ?_|refine Cv ?_);exact zk.1)|fail):p:=h ⟨k⟩
theorem Fs (k:q) (h:ZQ q→p:=by intro zk;first|((refine kL 12 rfl ?_;first|refine A_append_nlsub rfl rfl _ _ 48 rfl ud48 inf233 rfl rfl rfl rfl aK qB qB iW.symm (.push qL qN) ?_);exact zk.1)|fail):p:=h ⟨k⟩
theorem Ft (k:q) (h:ZQ q→p:=by intro zk;first|((refine kL 1551 rfl ?_;first|refine A_lit rfl rfl 48 1 _ rfl ud48 inf233 (.cons rfl .nil) (els:=[[_,_]]) rfl bG rfl (fT rfl) (ZbT rfl) (ZbT rfl) (.push qL qN) ?_);exact zk.1)|fail):p:=h ⟨k⟩
theorem Fu (k:q) (h:ZQ q→p:=by intro zk;first|((first|refine uA ?_|(refine ZRG ?_;first|refine uR ?_|refine AZ (cm) ?_|refine AZ (ce) ?_|refine uJ1 0 [1,2,3,4] (c1) ?_)|refine uC ?_|refine Cw ?_);exact zk.1)|fail):p:=h ⟨k⟩
theorem Fv (k:q) (h:ZQ q→p:=by intro zk;first|((first|(refine ZAL ?_;first|refine uA ?_|refine uI [0,1,2,3,4] (c1) ?_|refine uI [0,1,2,3,4] (c2) ?_)|(refine ZRG ?_;first|refine uR ?_|refine AZ (cm) ?_|refine uJ1 0 [1,2,3,4] (c1) ?_|refine AZ (cr) ?_|refine AZ (cb) ?_)|refine uC ?_|refine Cw ?_);exact zk.1)|fail):p:=h ⟨k⟩
theorem Fw (k:q) (h:ZQ q→p:=by intro zk;first|((first|(refine ZAL ?_;first|refine uA ?_|refine uI [0,1,2,3,4] (c1) ?_|refine uI [0,1,2,3,4] (c2) ?_|refine uK (ce) ?_)|(refine ZRG ?_;first|refine Af ?_|refine uR ?_|refine AZ (ce) ?_|refine AZ (cn) ?_|refine uJ1 0 [1,2,3,4] (c1) ?_)|refine uC ?_|refine Cx ?_);exact zk.1)|fail):p:=h ⟨k⟩
theorem Fx (k:q) (h:ZQ q→p:=by intro zk;first|((first|((with_reducible refine kAW ?_);refine ufB 6 0 ?_)|(refine ZAL ?_;first|refine uA ?_|refine uI [0,1,2,3,4] (c1) ?_|refine uI [0,1,2,3,4] (c2) ?_)|(refine ZRG ?_;first|refine Af ?_|refine uR ?_|refine uJ1 0 [1,2,3,4] (c1) ?_|refine AZ (cc) ?_|refine AZ (ce) ?_|refine AZ (cs) ?_)|refine uC ?_|refine Cx ?_);exact zk.1)|fail):p:=h ⟨k⟩
theorem Fy (k:q) (h:ZQ q→p:=by intro zk;first|((refine kL 12 rfl ?_;first|refine A_append_nlsub rfl rfl _ _ 49 rfl ud49 inf236 rfl rfl rfl rfl aK qB qB iW.symm (.push qL qN) ?_);exact zk.1)|fail):p:=h ⟨k⟩
theorem Fz (k:q) (h:ZQ q→p:=by intro zk;first|((first|(refine ZAL ?_;first|refine uA ?_|refine uI [0,1,2,3,4] (c2) ?_)|(refine ZRG ?_;first|refine uR ?_|refine AZ (ce) ?_|refine uJ1 0 [1,2,3,4] (c1) ?_)|refine uC ?_|(first|refine AW.drawU (id:=0) mixed 0 qR ?_|refine AW.drawU (id:=4) mixed 0 qR ?_));exact zk.1)|fail):p:=h ⟨k⟩
theorem G0 (k:q) (h:ZQ q→p:=by intro zk;first|((first|(refine ZAL ?_;first|refine uA ?_|refine uI [0,1,2,3,4] (co) ?_|refine uK (cr) ?_|refine uI [0,1,2,3,4] (c2) ?_|refine uI [0,1,2,3,4] (c1) ?_)|(refine ZRG ?_;first|refine uR ?_|refine AZ (cm) ?_|refine uJ1 0 [1,2,3,4] (c1) ?_)|refine uC ?_|refine B5 ?_);exact zk.1)|fail):p:=h ⟨k⟩
theorem G1 {c q1 q2 q3:Prop} (x:c) (k1:q1) (k2:q2) (k3:q3) (h:c→ZQ q1→ZQ q2→ZQ q3→p:=by intro x z1 z2 z3;first|exact Fin.mkv (rs:=_) x (.cons (.agg rfl rfl ud51 rfl inf51 (us:=[_,_,_,_,_]) rfl rfl) .nil) [2,3] (by decide) rfl z1.1 z2.1 z3.1|fail):p:=h x ⟨k1⟩ ⟨k2⟩ ⟨k3⟩
theorem G2 (k:q) (h:ZQ q→p:=by intro zk;first|((first|(refine ZAL ?_;first|refine uA ?_|refine uI [0,1,2,3,4] (c1) ?_)|(refine ZRG ?_;first|refine uR ?_|refine uJ1 0 [1,2,3,4] (c1) ?_|refine AZ (cw) ?_)|refine uC ?_|refine B5 ?_);exact zk.1)|fail):p:=h ⟨k⟩
theorem G3 (k:q) (h:ZQ q→p:=by intro zk;first|((refine kL 1481 rfl ?_;first|refine A_shl rfl rfl 46 159 _ _ rfl rfl rfl (by decide) (shl_lit (m:=65536) rfl bT) ?_|refine A_bits rfl rfl .or 46 46 _ _ rfl rfl rfl rfl (or_sum 16 (M:=65536) rfl (by omega) (by omega) (by omega) (by omega) (by omega) (by omega)) ?_|refine A_bits rfl rfl .or 46 46 _ _ rfl rfl rfl rfl (or_sum' 16 (M:=65536) rfl (by omega) (by omega) (by omega) (by omega) (by omega) (by omega)) ?_|refine A_shl rfl rfl 46 159 _ _ rfl rfl rfl dI rfl ?_|refine A_bits rfl rfl .or 46 46 _ _ rfl rfl rfl rfl rfl ?_);exact zk.1)|fail):p:=h ⟨k⟩
theorem G4 (k:q) (h:ZQ q→p:=by intro zk;first|((first|refine uA ?_|(refine ZRG ?_;first|refine uR ?_|refine uJ1 0 [1,2,3,4] (cn) ?_|refine uJ1 0 [1,2,3,4] (c1) ?_)|refine uC ?_|refine Cz ?_);exact zk.1)|fail):p:=h ⟨k⟩
theorem G5 (k:q) (h:ZQ q→p:=by intro zk;first|((first|(refine ZAL ?_;first|refine uA ?_|refine uI [0,1,2,3,4] (co) ?_|refine uK (cr) ?_)|(refine ZRG ?_;first|refine uR ?_|refine uJ1 0 [1,2,3,4] (c1) ?_|refine AZ (ce) ?_)|refine uC ?_|refine Cz ?_);exact zk.1)|fail):p:=h ⟨k⟩
theorem G6 {c q1 q2:Prop} (x:c) (k1:q1) (k2:q2) (h:c→ZQ q1→ZQ q2→p:=by intro x z1 z2;first|exact Fin.q x (.cons (.agg rfl rfl ud45 rfl inf45 (us:=[_,_]) rfl rfl) (.cons (.tmp rfl) .nil)) [] (hr:=(.tupL (.cons (.t z1.1) (.cons (.t z2.1) .nil))))|fail):p:=h x ⟨k1⟩ ⟨k2⟩
theorem G7 {c q1 q2 q3:Prop} (x:c) (k1:q1) (k2:q2) (k3:q3) (h:c→ZQ q1→ZQ q2→ZQ q3→p:=by intro x z1 z2 z3;first|exact Fin.mkv (rs:=_) x (.cons (.agg rfl rfl ud45 rfl inf45 (us:=[_,_]) rfl rfl) (.cons (.tmp rfl) .nil)) [] (by decide) rfl z1.1 z2.1 z3.1|fail):p:=h x ⟨k1⟩ ⟨k2⟩ ⟨k3⟩
theorem G8 {c q1 q2:Prop} (x:c) (k1:q1) (k2:q2) (h:c→ZQ q1→ZQ q2→p:=by intro x z1 z2;first|exact Fin.q x (.cons (.agg rfl rfl ud51 rfl inf51 (us:=[_,_,_,_,_]) rfl rfl) (.cons (.tmp rfl) .nil)) [5] (hr:=(.tupL (.cons (.t z1.1) (.cons (.t z2.1) .nil))))|fail):p:=h x ⟨k1⟩ ⟨k2⟩
theorem G9 {c q1 q2 q3:Prop} (x:c) (k1:q1) (k2:q2) (k3:q3) (h:c→ZQ q1→ZQ q2→ZQ q3→p:=by intro x z1 z2 z3;first|exact Fin.mkv (rs:=_) x (.cons (.agg rfl rfl ud51 rfl inf51 (us:=[_,_,_,_,_]) rfl rfl) (.cons (.tmp rfl) .nil)) [5] (by decide) rfl z1.1 z2.1 z3.1|fail):p:=h x ⟨k1⟩ ⟨k2⟩ ⟨k3⟩
theorem Ga (k:q) (h:ZQ q→p:=by intro zk;first|((first|(refine ZAL ?_;first|refine uA ?_|refine uK (c1) ?_)|refine uR ?_|refine uC ?_|refine AW.drawU (id:=10) mixed 0 qR ?_);exact zk.1)|fail):p:=h ⟨k⟩
theorem Gb (k:q) (h:ZQ q→p:=by intro zk;first|((refine kR 2255 rfl ?_;first|refine R_lit rfl rfl 70 1 _ rfl ud70 inf75 (.cons rfl .nil) (els:=[[_,_,_,_,_,_,_,_,_,_,_,_,_]]) rfl (by first|exact (rfl:_=List.map cNt [⟨_,_,_,_,⟨_,_,_,_,_⟩,⟨_,_,_,_⟩⟩])|exact qN) rfl (fT rfl) (ZbT rfl) (ZbT rfl) qh qN ?_);exact zk.1)|fail):p:=h ⟨k⟩
theorem Gc (k:q) (h:ZQ q→p:=by intro zk;first|((refine kR 12 rfl ?_;first|refine R_append rfl rfl _ _ 70 rfl ud70 inf75 rfl rfl rfl cY aA qB qB (by first|exact app_map aG|exact app_one (f:=cNt) (x:=⟨_,_,_,_,⟨_,_,_,_,_⟩,⟨_,_,_,_⟩⟩) aG|exact qN) qN qS ?_);exact zk.1)|fail):p:=h ⟨k⟩
theorem Gd (k:q) (h:ZQ q→p:=by intro zk;first|((first|(refine ZAL ?_;first|(refine kL 1699 rfl ?_;first|refine A_store_rp rfl rfl 53 _ _ rfl inf53 (by decide) rfl rfl bE rfl rfl rfl (ZbT rfl) bB qN ?_)|refine uA ?_)|(refine ZRG ?_;first|(refine kR 2403 rfl ?_;first|refine R_store_rp rfl rfl 75 _ _ rfl inf75 (by decide) rfl rfl bE rfl rfl rfl (ZbT rfl) bB qN ?_)|refine Gb ?_|refine Gc ?_|(refine kR 2243 rfl ?_;first|refine R_store_rp rfl rfl 70 _ _ rfl inf70 (by decide) rfl rfl bE rfl rfl rfl (ZbT rfl) bB qN ?_)|refine uR ?_|refine AZ (c1) ?_)|refine uC ?_|(first|refine AW.drawU (id:=1) mixed 1 qR ?_|refine AW.drawU (id:=4) mixed 2 qR ?_));exact zk.1)|fail):p:=h ⟨k⟩
theorem Ge (k:q) (h:ZQ q→p:=by intro zk;first|((first|refine AW.drawU (id:=6) mixed 0 qR ?_|refine AW.drawU (id:=8) mixed 0 qR ?_|refine AW.drawU (id:=11) mixed 0 qR ?_|refine AW.drawU (id:=13) mixed 0 qR ?_);exact zk.1)|fail):p:=h ⟨k⟩
theorem Gf (k:q) (h:ZQ q→p:=by intro zk;first|((refine kR 2255 rfl ?_;first|refine R_lit rfl rfl 70 1 _ rfl ud70 inf75 (.cons rfl .nil) (els:=[[_,_,_,_,_,_,_,_,_,_,_,_,_]]) rfl bG rfl (fT rfl) (ZbT rfl) (ZbT rfl) qh qN ?_);exact zk.1)|fail):p:=h ⟨k⟩
theorem Gg {c q1 q2:Prop} (x:c) (k1:q1) (k2:q2) (h:c→ZQ q1→ZQ q2→p:=by intro x z1 z2;first|exact Fin.q x (.cons (.agg rfl rfl ud51 rfl inf51 (us:=[_,_,_,_,_]) rfl rfl) (.cons (.tmp rfl) .nil)) [3,4] (hr:=(.tupL (.cons (.t z1.1) (.cons (.t z2.1) .nil))))|fail):p:=h x ⟨k1⟩ ⟨k2⟩
theorem Gh {c q1 q2 q3:Prop} (x:c) (k1:q1) (k2:q2) (k3:q3) (h:c→ZQ q1→ZQ q2→ZQ q3→p:=by intro x z1 z2 z3;first|exact Fin.mkv (rs:=_) x (.cons (.agg rfl rfl ud51 rfl inf51 (us:=[_,_,_,_,_]) rfl rfl) (.cons (.tmp rfl) .nil)) [3,4] (by decide) rfl z1.1 z2.1 z3.1|fail):p:=h x ⟨k1⟩ ⟨k2⟩ ⟨k3⟩
theorem Gi (k:q) (h:ZQ q→p:=by intro zk;first|((first|(refine ZAL ?_;first|refine uA ?_|refine uK (c1) ?_)|refine uR ?_|refine uC ?_|refine AW.drawU (id:=3) mixed 0 qR ?_);exact zk.1)|fail):p:=h ⟨k⟩
theorem Gj (k:q) (h:ZQ q→p:=by intro zk;first|((first|(refine ZAL ?_;first|refine uA ?_|(first|refine uK (c1) ?_|refine uK (c2) ?_)|(first|refine uK (c3) ?_|refine uK (c4) ?_))|refine uC ?_);exact zk.1)|fail):p:=h ⟨k⟩
theorem Gk (k:q) (h:ZQ q→p:=by intro zk;first|((first|(refine ZAL ?_;first|refine uA ?_|refine uK (c1) ?_)|(refine ZRG ?_;first|refine uR ?_|refine ZQ1 (c2) ?_|refine ZQ1 (c3) ?_)|refine uC ?_|refine AW.drawU (id:=3) mixed 0 qR ?_);exact zk.1)|fail):p:=h ⟨k⟩
theorem Gl (k:q) (h:ZQ q→p:=by intro zk;first|((first|(refine ZAL ?_;first|refine uA ?_|refine uI [0,1,2,3,4,5,6,7,8,9,10] (c1) ?_|refine uI [1,2,3,4] (c2) ?_)|refine uC ?_);exact zk.1)|fail):p:=h ⟨k⟩
theorem Gm (k:q) (h:ZQ q→p:=by intro zk;first|((refine kR 2767 rfl ?_;first|refine R_lit rfl rfl 86 1 _ rfl ud86 inf55 (.cons rfl .nil) (els:=[[_,_,_,_,_,_,_,_,_,_,_,_,_,_,_,_,_,_,_,_,_,_,_,_,_,_,_,_,_,_,_,_,_,_]]) rfl bG rfl (fT rfl) (ZbT rfl) (ZbT rfl) qh qN ?_);exact zk.1)|fail):p:=h ⟨k⟩
theorem Gn (k:q) (h:ZQ q→p:=by intro zk;first|((first|refine uA ?_|(refine ZRG ?_;first|(refine kR 2992 rfl ?_;first|refine R_make rfl rfl 93 _ _ rfl ud93 inf101 rfl (zs:=[(.v (.int .i64 0)),(.v (.int .i64 0)),(.v (.bool false)),(.v (.bool false)),.lst []]) rfl rfl rfl _ aJ aJ qB qB bG qh qN ?_)|(refine kR 3024 rfl ?_;first|refine R_make rfl rfl 94 _ _ rfl ud94 inf167 rfl (zs:=[(.v (.bool false)),(.v (.int .i64 0)),(.v (.int .i64 0)),.lst []]) rfl rfl rfl _ aJ aJ qB qB bG qh qN ?_)|(refine kR 3056 rfl ?_;first|refine R_make rfl rfl 95 _ _ rfl ud95 inf53 rfl (zs:=[(.v (.int .i64 0)),(.v (.int .i64 0)),(.v (.int .i64 0)),(.v (.int .i64 0))]) rfl rfl rfl _ aJ aJ qB qB bG qh qN ?_)|refine uR ?_)|refine uC ?_|refine Ei ?_);exact zk.1)|fail):p:=h ⟨k⟩
theorem Gp {c:Prop} (x:c) (h:c→p:=by intro x;first|exact Fin.q x (.cons (.agg rfl rfl ud55 rfl inf55 (us:=[_,_,_,_,_,_,_,_,_,_,_,_,_,_,_,_,_,_,_,_,_,_,_,_,_,_,_,_,_,_,_,_,_,_]) rfl rfl) .nil) []|fail):p:=h x
theorem Gq {c q1:Prop} (x:c) (k1:q1) (h:c→ZQ q1→p:=by intro x z1;first|exact Fin.q x (.cons (.agg rfl rfl ud55 rfl inf55 (us:=[_,_,_,_,_,_,_,_,_,_,_,_,_,_,_,_,_,_,_,_,_,_,_,_,_,_,_,_,_,_,_,_,_,_]) rfl rfl) .nil) [] (hr:=(.t z1.1))|fail):p:=h x ⟨k1⟩
theorem Gr {c q1 q2 q3:Prop} (x:c) (k1:q1) (k2:q2) (k3:q3) (h:c→ZQ q1→ZQ q2→ZQ q3→p:=by intro x z1 z2 z3;first|exact Fin.mkv (rs:=_) x (.cons (.agg rfl rfl ud55 rfl inf55 (us:=[_,_,_,_,_,_,_,_,_,_,_,_,_,_,_,_,_,_,_,_,_,_,_,_,_,_,_,_,_,_,_,_,_,_]) rfl rfl) .nil) [] (by decide) rfl z1.1 z2.1 z3.1|fail):p:=h x ⟨k1⟩ ⟨k2⟩ ⟨k3⟩
theorem Gs {c:Prop} (x:c) (h:c→p:=by intro x;first|(exfalso;omega)|((first|exact Fin.q x (.cons (.agg rfl rfl ud51 rfl inf51 (us:=[_,_,_,_,_]) rfl rfl) .nil) []|refine Fin.q x (.cons (.agg rfl rfl ud51 rfl inf51 (us:=[_,_,_,_,_]) rfl rfl) .nil) [] (hr:=(.t ?_))|refine Fin.mkv (rs:=_) x (.cons (.agg rfl rfl ud51 rfl inf51 (us:=[_,_,_,_,_]) rfl rfl) .nil) [] (by decide) rfl ?_ ?_ ?_<;>repeat' (first|exact ZE1|refine ZE2 ?_ ?_|refine ZE3 ?_|exact ZE4|fail)))|fail):p:=h x
theorem Gt {c:Prop} (x:c) (h:c→p:=by intro x;first|(exfalso;omega)|((first|exact Fin.q x (.cons (.tmp rfl) .nil) [1,2,3,4,5,6,7,8,9,10,11]|refine Fin.q x (.cons (.tmp rfl) .nil) [1,2,3,4,5,6,7,8,9,10,11] (hr:=(.t ?_))|refine Fin.mkv (rs:=_) x (.cons (.tmp rfl) .nil) [1,2,3,4,5,6,7,8,9,10,11] (by decide) rfl ?_ ?_ ?_<;>repeat' (first|exact ZE1|refine ZE2 ?_ ?_|refine ZE3 ?_|exact ZE4|fail)))|fail):p:=h x
theorem Gu (k:q) (h:ZQ q→p:=by intro zk;first|((first|(refine ZAL ?_;first|refine uA ?_|refine uI [0,1,2,3,4,5,6,7,8,9,10] (c0) ?_|refine uI [0,1,2,3,4,5,6,7,8,9,10] (ct) ?_)|refine uC ?_);exact zk.1)|fail):p:=h ⟨k⟩
theorem Gv (k:q) (h:ZQ q→p:=by intro zk;first|((first|(refine ZAL ?_;first|refine uA ?_|refine uI [0,1,2,3,4,5,6,7,8,9,10] (c3) ?_)|refine uC ?_);exact zk.1)|fail):p:=h ⟨k⟩
theorem Gw (k:q) (h:ZQ q→p:=by intro zk;first|((first|(refine ZAL ?_;first|refine Ac ?_|refine Al ?_|refine uA ?_|refine uK (c1) ?_|refine uK (aw) ?_)|refine uC ?_);exact zk.1)|fail):p:=h ⟨k⟩
theorem Gx (k:q) (h:ZQ q→p:=by intro zk;first|((first|refine uA ?_|(refine ZRG ?_;first|refine uR ?_|refine uJ [1,2,3,4] (c1) ?_)|refine uC ?_|refine AW.drawU (id:=1) mixed 2 qR ?_);exact zk.1)|fail):p:=h ⟨k⟩
theorem Gy (k:q) (h:ZQ q→p:=by intro zk;first|((refine kL 975 rfl ?_;first|refine A_lit rfl rfl 30 1 _ rfl ud30 inf141 (.cons rfl .nil) (els:=[[_,_,_]]) rfl (by first|exact (rfl:_=List.map tCs [⟨d,h,v⟩])|exact qN) rfl (fT rfl) (ZbT rfl) (ZbT rfl) (.push qL qN) ?_);exact zk.1)|fail):p:=h ⟨k⟩
theorem Gz (k:q) (h:ZQ q→p:=by intro zk;first|((refine kL 1027 rfl ?_;first|refine A_store_rp rfl rfl 32 _ _ rfl inf32 (by decide) rfl rfl aI rfl rfl rfl (ZbT rfl) (by first|exact map_set (f:=tCs) (x:=⟨d,h,v⟩)|exact qN) qN ?_);exact zk.1)|fail):p:=h ⟨k⟩
theorem aA (h:p:=by first|exact .nl|exact .all rfl dC|exact .lst (by first|exact each_map (fun _=>rfl)|assumption|(simp<;>fail)|fail)|exact .ln (by first|exact each_map (fun _=>rfl)|assumption|(simp<;>fail)|fail)|exact .sl rfl cY|exact .sub rfl cY|fail):p:=h
theorem aB (h:p:=by first|(repeat' (first|exact FzL.nil|apply FzL.cons|exact FzR.nlt|exact FzR.all dC|exact FzR.sl cY|apply FzR.aggL|exact FzR.same _))|fail):p:=h
theorem aD (h:p:=by first|decide|(dsimp only;decide)|fail):p:=h
theorem aE (h:p:=by first|exact .nl|exact .all rfl dC|exact .lst dD|exact .ln dD|exact .sl rfl cY|exact .sub rfl cY|fail):p:=h
theorem aF (h:p:=by first|omega|(simp<;>fail)|(simp;omega)|fail):p:=h
theorem aG (h:p:=by first|rfl|omega|(simp<;>fail)|fail|fail):p:=h
theorem aH (h:p:=by first|simp [ho,Op.operands,Call.operands]|fail):p:=h
theorem aI (h:p:=by first|exact map_get dG|assumption|fail):p:=h
theorem aJ (h:p:=by first|rfl|assumption|omega|fail):p:=h
theorem aK (h:p:=by first|((try simp only [fH,fJ,fY,gB]);omega)|fail):p:=h
theorem aL (h:p:=by first|exact rep_map (f:=tCh) (x:=⟨_,_,_,_,[]⟩)|exact rep_map (f:=tWt) (x:=⟨_,_,_,[]⟩)|exact rep_map (f:=tR) (x:=⟨_,_,_,_⟩)|exact qN|fail):p:=h
theorem aM (h:p:=by first|(rw [wanted_eqA hT];exact hw)|fail):p:=h
theorem aN (h:p:=by first|exact app_map dH|exact app_one (f:=tI) (x:=_) dH|exact app_one (f:=tU) (x:=_) dH|exact app_one (f:=tR) (x:=⟨_,_,_,_⟩) dH|exact app_one (f:=tCs) (x:=⟨_,_,_⟩) dH|exact app_one (f:=tOd) (x:=⟨⟨_,_⟩,_⟩) dH|exact app_one (f:=tRf) (x:=⟨_,_⟩) dH|exact app_one (f:=tOp) (x:=⟨_,_,_,⟨_,_,_,_,_⟩⟩) dH|((try simp only [jJ,iY,iA,gN,gM,gS,gU,fY,gB,gX,iB,gH,gO,jZ,jD,gK,iK,Nat.reduceAdd,Nat.reduceSub]);rfl)|fail):p:=h
theorem aO (h:p:=by first|rfl|exact hh|fail):p:=h
theorem aP (h:p:=by first|exact map_set (f:=tI) (x:=_)|exact map_set (f:=cTk) (x:=y)|exact map_set (f:=cPu) (x:=g)|exact map_set (f:=cTn) (x:=⟨_,_,_⟩)|exact qN|fail):p:=h
theorem aQ (h:p:=by first|exact map_get dG|assumption|exact map_get ha|exact map_get (e3 _ (by omega))|fail):p:=h
theorem aS (h:p:=by first|exact take_drop_map (by first|omega|(simp;omega))|exact take_drop_map'|rfl|fail):p:=h
theorem aT (h:p:=by first|exact map_get dG|assumption|exact rfl|exact map_get (get_D (x:=0) (by omega))|fail):p:=h
theorem aU (h:p:=by first|exact map_get dG|assumption|exact map_get hx|exact map_get hp|exact map_get hst|exact map_get hmo|exact map_get hst2|fail):p:=h
theorem aV (h:p:=by first|exact map_get dG|assumption|exact map_get hx|exact map_get hp|fail):p:=h
theorem aX (h:p:=by first|exact map_get dG|assumption|exact map_get (e3 _ (by omega))|fail):p:=h
theorem aY (h:p:=by first|exact (rfl:_=List.map tI [_])|exact (rfl:_=List.map tU [_])|exact (rfl:_=List.map tR [⟨_,_,_,_⟩])|exact (rfl:_=List.map tCs [⟨_,_,_⟩])|exact (rfl:_=List.map tOd [⟨⟨_,_⟩,_⟩])|exact (rfl:_=List.map tRf [⟨_,_⟩])|exact (rfl:_=List.map tOp [⟨_,_,_,⟨_,_,_,_,_⟩⟩])|((try simp only [jJ,iY,iA,gN,gM,gS,gU,fY,gB,gX,iB,gH,gO,jZ,jD,gK,iK,Nat.reduceAdd,Nat.reduceSub]);rfl)|fail):p:=h
theorem aZ (h:p:=by first|exact map_set (f:=tI) (x:=_)|exact map_set (f:=tU) (x:=_)|exact map_set (f:=tR) (x:=⟨_,_,_,_⟩)|exact map_set (f:=tCs) (x:=⟨_,_,_⟩)|exact map_set (f:=tOd) (x:=⟨⟨_,_⟩,_⟩)|exact map_set (f:=tRf) (x:=⟨_,_⟩)|exact map_set (f:=tOp) (x:=⟨_,_,_,⟨_,_,_,_,_⟩⟩)|((try simp only [jJ,iY,iA,gN,gM,gS,gU,fY,gB,gX,iB,gH,gO,jZ,jD,gK,iK,Nat.reduceAdd,Nat.reduceSub]);rfl)|fail):p:=h
theorem bA (h:p:=by first|(simp;omega)|fail):p:=h
theorem bB (h:p:=by first|exact map_set (f:=cNt) (x:=⟨_,_,_,_,⟨_,_,_,_,_⟩,⟨_,_,_,_⟩⟩)|exact qN|fail):p:=h
theorem bC (h:p:=by first|(unfold execOp;rw [ho])|fail):p:=h
theorem bD (h:p:=by first|exact map_set (f:=tI) (x:=_)|exact map_set (f:=tTd) (x:=⟨t,⟨w.seq,m,0,0⟩⟩)|exact qN|fail):p:=h
theorem bE (h:p:=by first|exact map_get dG|assumption|exact map_get hx|fail):p:=h
theorem bF (h:p:=by first|kernel_rfl|fail):p:=h
theorem bG (h:p:=by first|exact qN|fail):p:=h
theorem bH (h:p:=by first|exact map_set (f:=tU) (x:=_)|exact map_set (f:=tAc) (x:=⟨_,_,_,_,_,_,_⟩)|exact qN|fail):p:=h
theorem bI (h:p:=by first|exact map_set (f:=tWt) (x:=⟨_,_,_,_⟩)|exact qN|fail):p:=h
theorem bJ (h:p:=by first|exact map_set (f:=tSl) (x:=osl o)|exact map_set (f:=tOd) (x:=o)|exact qN|fail):p:=h
theorem bK (h:p:=by first|exact map_get dG|assumption|exact map_get hx0|fail):p:=h
theorem bM (h:p:=by first|exact map_set (f:=tSl) (x:=_)|exact map_set (f:=tOd) (x:=_)|exact qN|fail):p:=h
theorem bN (h:p:=by first|(rw [hH N (by simp)];exact hat)|fail):p:=h
theorem bO (h:p:=by first|exact map_set (f:=tCh) (x:=⟨_,_,_,_,[]⟩)|exact map_set (f:=tWt) (x:=⟨_,_,_,[]⟩)|exact map_set (f:=tR) (x:=⟨_,_,_,_⟩)|exact qN|fail):p:=h
theorem bP (h:p:=by first|exact wi|exact wu|rfl|fail):p:=h
theorem bQ (h:p:=by first|exact cl_one (f:=tI) (x:=_)|exact cl_one (f:=tU) (x:=_)|exact cl_one (f:=tR) (x:=⟨_,_,_,_⟩)|exact cl_one (f:=tCs) (x:=⟨_,_,_⟩)|exact cl_one (f:=tOd) (x:=⟨⟨_,_⟩,_⟩)|exact cl_one (f:=tRf) (x:=⟨_,_⟩)|exact cl_one (f:=tOp) (x:=⟨_,_,_,⟨_,_,_,_,_⟩⟩)|exact qN|fail):p:=h
theorem bS (h:p:=by first|exact .all dC|exact .nlt|exact .same _|fail):p:=h
theorem bT (h:p:=by first|exact wi|exact wu|fail):p:=h
theorem bU (h:p:=by first|exact map_set (f:=tTd) (x:=⟨t,⟨w.seq,m,0,v⟩⟩)|exact qN|fail):p:=h
theorem bV (h:p:=by first|(repeat (first|exact Fl.nil|(apply Fl.cons;exact rfl;exact rfl;exact (ZbT rfl);exact qN)))|fail):p:=h
theorem bW (h:p:=by first|exact map_set (f:=tCh) (x:=⟨g1,g2,g3,g4,gb⟩)|exact qN|fail):p:=h
theorem bX (h:p:=by first|(simp only [iA,Nat.sub_zero, ←iW, ←List.map_take];rfl)|rfl|fail):p:=h
theorem bY (h:p:=by first|exact (rfl:_=List.map tSl [osl o])|exact (rfl:_=List.map tOd [o])|exact qN|fail):p:=h
theorem bZ (h:p:=by first|simpa using hj|fail):p:=h
theorem cG (h:p:=by first|exact map_get dG|assumption|exact map_get hy|fail):p:=h
theorem cJ (h:p:=by first|exact map_get dG|assumption|exact map_get hc|fail):p:=h
theorem cU (h:p:=by first|exact (rfl:_=List.map tSl [_])|exact (rfl:_=List.map tOd [_])|exact qN|fail):p:=h
theorem cY (h:p:=by first|exact fN _|(simp<;>fail)|(simp;omega)|fail):p:=h
theorem dA (h:p:=by first|(rw [ev_eq hT aH];exact hx)|fail):p:=h
theorem dC (h:p:=by first|rfl|(simp<;>fail)|(simp;omega)|fail):p:=h
theorem dD (h:p:=by first|exact each_map (fun _=>rfl)|assumption|(simp<;>fail)|fail):p:=h
theorem dE (h:p:=by first|exact .no _|exact .yes rfl aF qJ|fail):p:=h
theorem dF (h:p:=by first|(rw [ev_eq hT aH];exact hy)|fail):p:=h
theorem dG (h:p:=by first|assumption|fail):p:=h
theorem dH (h:p:=by first|rfl|omega|(simp<;>fail)|fail):p:=h
theorem dI (h:p:=by first|decide|omega|fail):p:=h
theorem dJ (h:p:=by first|(unfold aMail;omega)|fail):p:=h
theorem dK (h:p:=by first|(unfold aHaz;omega)|fail):p:=h
theorem dL (h:p:=by first|(unfold aEpo;omega)|fail):p:=h
theorem dM (h:p:=by first|exact map_set (f:=tI) (x:=_)|exact map_set (f:=cNt) (x:=⟨_,_,_,_,⟨_,_,_,_,_⟩,⟨_,_,_,_⟩⟩)|exact map_set (f:=cTk) (x:=y)|exact map_set (f:=cPu) (x:=_)|exact map_set (f:=cTn) (x:=⟨_,_,_⟩)|exact qN|fail):p:=h
theorem dN (h:p:=by first|exact map_set (f:=tI) (x:=_)|exact map_set (f:=cNt) (x:=⟨_,_,_,_,⟨_,_,_,_,_⟩,⟨_,_,_,_⟩⟩)|exact map_set (f:=cTk) (x:=x)|exact map_set (f:=cPu) (x:=_)|exact map_set (f:=cTn) (x:=⟨_,_,_⟩)|exact qN|fail):p:=h
theorem dO (h:p:=by first|(rw [hH i (by simp)];exact hi)|fail):p:=h
theorem dR (h:p:=by first|exact (rfl:_=List.map tI [_])|exact (rfl:_=List.map tTd [⟨t,⟨w.seq,m,0,0⟩⟩])|exact qN|fail):p:=h
theorem dS (h:p:=by first|(dsimp only;omega)|fail):p:=h
theorem dU (h:p:=by first|exact .inl rfl|exact .inr rfl|fail):p:=h
theorem dV (h:p:=by first|exact (rfl:_=List.map tCh [⟨_,_,_,_,_⟩])|exact qN|fail):p:=h
theorem dW (h:p:=by first|exact map_set (f:=tCh) (x:=⟨_,_,_,_,_⟩)|exact qN|fail):p:=h
theorem dX (h:p:=by first|(repeat (first|exact Parts.nil|(apply Parts.cons;exact rfl)))|fail):p:=h
theorem dY (h:p:=by first|exact (rfl:_=List.map tWt [⟨_,_,_,_⟩])|exact qN|fail):p:=h
theorem dZ (h:p:=by first|(repeat (first|exact Args.nil|(apply Args.cons;exact rfl)))|fail):p:=h
theorem eA (h:p:=by first|((try (dsimp only;fail_if_success done));first|omega|fail)|fail):p:=h
theorem eB (h:p:=by first|with_reducible exact fW _|exact rfl|fail):p:=h
theorem eC (h:p:=by first|exact map_set (f:=tCs) (x:=⟨_,_,_⟩)|exact qN|fail):p:=h
theorem eF (h:p:=by first|(rw [hx];rfl)|fail):p:=h
theorem eG (h:p:=by first|exact map_set (f:=cPu) (x:=⟨true,false,false,ei,eo,0,0⟩)|exact qN|fail):p:=h
theorem eH (h:p:=by first|exact .inl ⟨rfl,rfl⟩|exact .inr ⟨rfl,rfl⟩|fail):p:=h
theorem eI (h:p:=by first|(show (backP _ _).free.length+(backP _ _).old.length≤_;rw [backP_len];omega)|fail):p:=h
theorem eJ (h:p:=by first|(have:=get_lt hb;omega)|fail):p:=h
theorem eK (h:p:=by first|exact rep_map (f:=tCh) (x:=⟨1,x,true,false,[]⟩)|exact qN|fail):p:=h
theorem eM (h:p:=by first|exact map_set (f:=tCh) (x:=⟨1,x,true,false,[]⟩)|exact qN|fail):p:=h
theorem eO (h:p:=by first|exact (rfl:_=List.map tTd [⟨t,⟨w.seq,m,0,v⟩⟩])|exact qN|fail):p:=h
theorem eP (h:p:=by first|(rw [hy];rfl)|fail):p:=h
theorem eQ (h:p:=by first|simpa using hu|fail):p:=h
theorem eU (h:p:=by first|(have:=get_lt hj;omega)|fail):p:=h
theorem eV (h:p:=by first|(rw [stC_len];omega)|fail):p:=h
theorem eW (h:p:=by first|(unfold aSeq;omega)|fail):p:=h
theorem eX (h:p:=by first|((try simp only [fH]);rfl)|fail):p:=h
theorem eY (h:p:=by first|exact wu|fail):p:=h
theorem eZ (h:p:=by first|(rw [h2];exact ha)|fail):p:=h
theorem fA (h:p:=by first|exact app_map aG|exact app_one (f:=tSl) (x:=osl o) aG|exact app_one (f:=tOd) (x:=o) aG|exact qN|fail):p:=h
theorem fB (h:p:=by first|exact app_map aG|exact app_one (f:=tSl) (x:=_) aG|exact app_one (f:=tOd) (x:=_) aG|exact qN|fail):p:=h
theorem fC (h:p:=by first|exact rfl|(simp<;>fail)|fail):p:=h
theorem fD (h:p:=by first|simpa using h|fail):p:=h
theorem fE (h:p:=by first|(rw [fJ,gQ];omega)|fail):p:=h
theorem fF (h:p:=by first|exact (rfl:_=List.map tU [_])|exact (rfl:_=List.map tAc [⟨_,_,_,_,_,_,_⟩])|exact qN|fail):p:=h
theorem fG (h:p:=by first|exact map_get dG|assumption|exact map_get hg|exact map_get hx|fail):p:=h
end Go.Proofs.YtccefppppedgkaaGreat
