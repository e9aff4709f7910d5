/- Joined: XTypes, XTEq, XTIoR, XTArr. -/
import Derived.Test.YtccefppppedgkaaGreatRows
import Derived.KernelRfl
import Derived.Test.YtccefppppedgkaaGreatKGd
import Derived.Laws.StructEq
set_option linter.unusedVariables false
set_option linter.unusedSimpArgs false
set_option linter.unnecessarySimpa false
set_option maxRecDepth 100000
set_option maxHeartbeats 64000000
namespace Go.Proofs.YtccefppppedgkaaGreat
theorem inf3:(Tryz.prog.info? 3).map (fun i=>(i.zero,i.size,i.bytes))=some (some (.int .i64 0),1,8):=by kernel_rfl
theorem AjL:(Tryz.prog.info? 4).map (fun i=>(i.zero,i.size,i.bytes))=some (some (.bool false),1,1):=by kernel_rfl
theorem ZJ:(Tryz.prog.info? 22).map (fun i=>(i.zero,i.size,i.bytes))=some (some (.slice none 0 0),1,24):=by kernel_rfl
theorem ZL:(Tryz.prog.info? 24).map (fun i=>(i.zero,i.size,i.bytes))=some (some (.agg #[.int .i64 0,.int .i64 0,.int .i64 0,.int .i64 0,.int .i64 0,.int .i64 0,.int .i64 0,.int .i64 0,.int .i64 0,.int .i64 0,.slice none 0 0]),11,104):=by kernel_rfl
theorem AwE:(Tryz.prog.info? 25).map (fun i=>(i.zero,i.size,i.bytes))=some (some (.slice none 0 0),1,24):=by kernel_rfl
theorem AwF:(Tryz.prog.info? 28).map (fun i=>(i.zero,i.size,i.bytes))=some (some (.pointer none),1,8):=by kernel_rfl
theorem inf30:(Tryz.prog.info? 30).map (fun i=>(i.zero,i.size,i.bytes))=some (some (.slice none 0 0),1,24):=by kernel_rfl
theorem inf32:(Tryz.prog.info? 32).map (fun i=>(i.zero,i.size,i.bytes))=some (some (.agg #[.int .i64 0,.int .i64 0,.int .i64 0,.bool false,.slice none 0 0]),5,56):=by kernel_rfl
theorem AnJ:(Tryz.prog.info? 34).map (fun i=>(i.zero,i.size,i.bytes))=some (some (.agg #[.int .i64 0,.int .i64 0,.int .i64 0,.int .i64 0,.int .i64 0,.bool false,.slice none 0 0,.int .i64 0,.slice none 0 0]),9,104):=by kernel_rfl
theorem AwG:(Tryz.prog.info? 35).map (fun i=>(i.zero,i.size,i.bytes))=some (some (.int .i64 0),1,8):=by kernel_rfl
theorem AwH:(Tryz.prog.info? 39).map (fun i=>(i.zero,i.size,i.bytes))=some (some (.slice none 0 0),1,24):=by kernel_rfl
theorem AwI:(Tryz.prog.info? 41).map (fun i=>(i.zero,i.size,i.bytes))=some (some (.slice none 0 0),1,24):=by kernel_rfl
theorem inf42:(Tryz.prog.info? 42).map (fun i=>(i.zero,i.size,i.bytes))=some (some (.slice none 0 0),1,24):=by kernel_rfl
theorem inf45:(Tryz.prog.info? 45).map (fun i=>(i.zero,i.size,i.bytes))=some (some (.agg #[.int .i64 0,.int .i64 0]),2,16):=by kernel_rfl
theorem inf46:(Tryz.prog.info? 46).map (fun i=>(i.zero,i.size,i.bytes))=some (some (.int .u64 0),1,8):=by kernel_rfl
theorem AnK:(Tryz.prog.info? 47).map (fun i=>(i.zero,i.size,i.bytes))=some (some (.slice none 0 0),1,24):=by kernel_rfl
theorem n2_:(Tryz.prog.info? 48).map (fun i=>(i.zero,i.size,i.bytes))=some (some (.slice none 0 0),1,24):=by kernel_rfl
theorem n3_:(Tryz.prog.info? 49).map (fun i=>(i.zero,i.size,i.bytes))=some (some (.slice none 0 0),1,24):=by kernel_rfl
theorem inf51:(Tryz.prog.info? 51).map (fun i=>(i.zero,i.size,i.bytes))=some (some (.agg #[.int .i64 0,.int .i64 0,.slice none 0 0,.slice none 0 0,.int .i64 0]),5,72):=by kernel_rfl
theorem inf53:(Tryz.prog.info? 53).map (fun i=>(i.zero,i.size,i.bytes))=some (some (.agg #[.int .i64 0,.int .i64 0,.int .i64 0,.int .i64 0]),4,32):=by kernel_rfl
theorem inf55:(Tryz.prog.info? 55).map (fun i=>(i.zero,i.size,i.bytes))=some (some (.agg #[.int .i64 0,.int .i64 0,.int .i64 0,.int .i64 0,.int .i64 0,.bool false,.slice none 0 0,.bool false,.int .i64 0,.int .i64 0,.int .i64 0,.int .i64 0,.int .i64 0,.bool false,.int .i64 0,.int .i64 0,.slice none 0 0,.slice none 0 0,.int .u64 0,.slice none 0 0,.slice none 0 0,.slice none 0 0,.int .i64 0,.int .i64 0,.slice none 0 0,.slice none 0 0,.int .i64 0,.int .i64 0,.int .i64 0,.int .i64 0,.int .i64 0,.bool false,.bool false,.bool false]),34,384):=by kernel_rfl
theorem inf63:(Tryz.prog.info? 63).map (fun i=>(i.zero,i.size,i.bytes))=some (some (.agg #[.int .i64 0,.int .i64 0,.slice none 0 0]),3,40):=by kernel_rfl
theorem inf65:(Tryz.prog.info? 65).map (fun i=>(i.zero,i.size,i.bytes))=some (some (.agg #[.int .i64 0,.int .i64 0,.int .i64 0,.int .i64 0,.int .i64 0,.int .i64 0,.bool false,.slice none 0 0]),8,80):=by kernel_rfl
theorem inf70:(Tryz.prog.info? 70).map (fun i=>(i.zero,i.size,i.bytes))=some (some (.slice none 0 0),1,24):=by kernel_rfl
theorem inf75:(Tryz.prog.info? 75).map (fun i=>(i.zero,i.size,i.bytes))=some (some (.agg #[.int .i64 0,.int .i64 0,.int .i64 0,.int .i64 0,.int .i64 0,.int .i64 0,.int .i64 0,.bool false,.slice none 0 0,.int .i64 0,.int .i64 0,.int .i64 0,.int .i64 0]),13,120):=by kernel_rfl
theorem AnL:(Tryz.prog.info? 78).map (fun i=>(i.zero,i.size,i.bytes))=some (some (.slice none 0 0),1,24):=by kernel_rfl
theorem AwJ:(Tryz.prog.info? 79).map (fun i=>(i.zero,i.size,i.bytes))=some (some (.pointer none),1,8):=by kernel_rfl
theorem IV:(Tryz.prog.info? 83).map (fun i=>(i.zero,i.size,i.bytes))=some (some (.agg #[.int .i64 0,.int .i64 0,.int .i64 0,.int .u64 0,.int .u64 0,.int .u64 0,.bool false]),7,56):=by kernel_rfl
theorem AnM:(Tryz.prog.info? 86).map (fun i=>(i.zero,i.size,i.bytes))=some (some (.slice none 0 0),1,24):=by kernel_rfl
theorem AdJ:(Tryz.prog.info? 93).map (fun i=>(i.zero,i.size,i.bytes))=some (some (.slice none 0 0),1,24):=by kernel_rfl
theorem ZM:(Tryz.prog.info? 94).map (fun i=>(i.zero,i.size,i.bytes))=some (some (.slice none 0 0),1,24):=by kernel_rfl
theorem AdK:(Tryz.prog.info? 95).map (fun i=>(i.zero,i.size,i.bytes))=some (some (.slice none 0 0),1,24):=by kernel_rfl
theorem inf97:(Tryz.prog.info? 97).map (fun i=>(i.zero,i.size,i.bytes))=some (some (.agg #[.int .i64 0,.slice none 0 0,.slice none 0 0,.slice none 0 0]),4,80):=by kernel_rfl
theorem inf101:(Tryz.prog.info? 101).map (fun i=>(i.zero,i.size,i.bytes))=some (some (.agg #[.int .i64 0,.int .i64 0,.bool false,.bool false,.slice none 0 0]),5,48):=by kernel_rfl
theorem ApW:(Tryz.prog.info? 109).map (fun i=>(i.zero,i.size,i.bytes))=some (some (.nilFunc),1,8):=by kernel_rfl
theorem ApX:(Tryz.prog.info? 112).map (fun i=>(i.zero,i.size,i.bytes))=some (some (.slice none 0 0),1,24):=by kernel_rfl
theorem AdD:(Tryz.prog.info? 114).map (fun i=>(i.zero,i.size,i.bytes))=some (some (.agg #[.int .i64 0,.int .i64 0,.int .i64 0,.int .i64 0,.int .i64 0,.int .i64 0,.int .i64 0,.int .i64 0,.int .i64 0,.int .i64 0,.slice none 0 0,.pointer none,.slice none 0 0,.slice none 0 0,.slice none 0 0,.slice none 0 0,.slice none 0 0,.slice none 0 0,.int .i64 0]),19,264):=by kernel_rfl
theorem inf125:(Tryz.prog.info? 125).map (fun i=>(i.zero,i.size,i.bytes))=some (some (.agg #[.int .i64 0,.slice none 0 0,.slice none 0 0]),3,56):=by kernel_rfl
theorem ApY:(Tryz.prog.info? 132).map (fun i=>(i.zero,i.size,i.bytes))=some (some (.nilFunc),1,8):=by kernel_rfl
theorem AdE:(Tryz.prog.info? 135).map (fun i=>(i.zero,i.size,i.bytes))=some (some (.agg #[.slice none 0 0,.slice none 0 0,.slice none 0 0,.bool false]),4,80):=by kernel_rfl
theorem inf141:(Tryz.prog.info? 141).map (fun i=>(i.zero,i.size,i.bytes))=some (some (.agg #[.int .i64 0,.int .i64 0,.int .i64 0]),3,24):=by kernel_rfl
theorem inf145:(Tryz.prog.info? 145).map (fun i=>(i.zero,i.size,i.bytes))=some (some (.agg #[.bool false,.bool false,.bool false,.int .i64 0,.slice none 0 0,.int .i64 0,.int .i64 0]),7,56):=by kernel_rfl
theorem inf152:(Tryz.prog.info? 152).map (fun i=>(i.zero,i.size,i.bytes))=some (some (.agg #[.int .i64 0,.bool false,.slice none 0 0]),3,40):=by kernel_rfl
theorem inf167:(Tryz.prog.info? 167).map (fun i=>(i.zero,i.size,i.bytes))=some (some (.agg #[.bool false,.int .i64 0,.int .i64 0,.slice none 0 0]),4,48):=by kernel_rfl
theorem ApZ:(Tryz.prog.info? 173).map (fun i=>(i.zero,i.size,i.bytes))=some (some (.pointer none),1,8):=by kernel_rfl
theorem AqA:(Tryz.prog.info? 185).map (fun i=>(i.zero,i.size,i.bytes))=some (some (.pointer none),1,8):=by kernel_rfl
theorem AdF:(Tryz.prog.info? 187).map (fun i=>(i.zero,i.size,i.bytes))=some (some (.agg #[.int .i64 0,.int .i64 0,.int .i64 0,.int .i64 0,.int .i64 0,.bool false,.slice none 0 0,.bool false,.int .i64 0,.int .i64 0,.int .i64 0,.int .i64 0,.int .i64 0,.bool false,.int .i64 0,.int .i64 0,.slice none 0 0,.slice none 0 0,.int .u64 0,.slice none 0 0,.slice none 0 0,.slice none 0 0,.int .i64 0,.int .i64 0,.slice none 0 0,.slice none 0 0,.int .i64 0,.int .i64 0,.int .i64 0,.int .i64 0,.int .i64 0,.bool false,.bool false,.bool false,.int .i64 0,.int .i64 0,.int .i64 0,.int .i64 0,.int .i64 0,.int .i64 0,.int .i64 0,.int .i64 0,.int .i64 0,.int .i64 0,.slice none 0 0,.pointer none,.int .i64 0,.int .i64 0,.bool false,.slice none 0 0]),50,544):=by kernel_rfl
theorem AqB:(Tryz.prog.info? 189).map (fun i=>(i.zero,i.size,i.bytes))=some (some (.nilFunc),1,8):=by kernel_rfl
theorem AqC:(Tryz.prog.info? 197).map (fun i=>(i.zero,i.size,i.bytes))=some (some (.nilFunc),1,8):=by kernel_rfl
theorem AqD:(Tryz.prog.info? 200).map (fun i=>(i.zero,i.size,i.bytes))=some (some (.slice none 0 0),1,24):=by kernel_rfl
theorem AdG:(Tryz.prog.info? 202).map (fun i=>(i.zero,i.size,i.bytes))=some (some (.agg #[.int .i64 0,.int .i64 0,.bool false,.bool false,.slice none 0 0,.slice none 0 0,.int .i64 0,.int .i64 0,.int .i64 0,.int .i64 0,.slice none 0 0]),11,128):=by kernel_rfl
theorem inf233:(Tryz.prog.info? 233).map (fun i=>(i.zero,i.size,i.bytes))=some (some (.agg #[.int .i64 0,.int .i64 0]),2,16):=by kernel_rfl
theorem inf236:(Tryz.prog.info? 236).map (fun i=>(i.zero,i.size,i.bytes))=some (some (.agg #[.int .i64 0,.int .i64 0,.int .i64 0]),3,24):=by kernel_rfl
theorem inf239:(Tryz.prog.info? 239).map (fun i=>(i.zero,i.size,i.bytes))=some (some (.agg #[.int .i64 0,.int .i64 0,.int .i64 0,.int .i64 0,.int .i64 0]),5,40):=by kernel_rfl
theorem AqE:(Tryz.prog.info? 256).map (fun i=>(i.zero,i.size,i.bytes))=some (some (.nilFunc),1,8):=by kernel_rfl
theorem AqF:(Tryz.prog.info? 258).map (fun i=>(i.zero,i.size,i.bytes))=some (some (.nilFunc),1,8):=by kernel_rfl
theorem AqG:(Tryz.prog.info? 265).map (fun i=>(i.zero,i.size,i.bytes))=some (some (.nilFunc),1,8):=by kernel_rfl
theorem AqH:(Tryz.prog.info? 267).map (fun i=>(i.zero,i.size,i.bytes))=some (some (.nilFunc),1,8):=by kernel_rfl
theorem AqI:(Tryz.prog.info? 271).map (fun i=>(i.zero,i.size,i.bytes))=some (some (.nilFunc),1,8):=by kernel_rfl
theorem AqJ:(Tryz.prog.info? 286).map (fun i=>(i.zero,i.size,i.bytes))=some (some (.pointer none),1,8):=by kernel_rfl
theorem AdH:(Tryz.prog.info? 288).map (fun i=>(i.zero,i.size,i.bytes))=some (some (.agg #[.slice none 0 0]),1,24):=by kernel_rfl
theorem AqK:(Tryz.prog.info? 293).map (fun i=>(i.zero,i.size,i.bytes))=some (some (.pointer none),1,8):=by kernel_rfl
theorem AdI:(Tryz.prog.info? 295).map (fun i=>(i.zero,i.size,i.bytes))=some (some (.agg #[.int .i64 0,.slice none 0 0,.slice none 0 0,.slice none 0 0,.int .i64 0,.int .i64 0,.int .i64 0,.int .i64 0,.int .i64 0,.int .i64 0,.int .i64 0,.int .i64 0,.int .i64 0,.int .i64 0,.slice none 0 0,.int .i64 0,.int .i64 0]),17,200):=by kernel_rfl
abbrev ud3 := @Tryz.underlying3
abbrev ud4 := @Tryz.underlying4
abbrev ud22 := @Tryz.underlying22
abbrev AhB := @Tryz.underlying24
abbrev BcK := @Tryz.underlying25
abbrev BcL := @Tryz.underlying28
abbrev ud30 := @Tryz.underlying30
abbrev ud32 := @Tryz.underlying32
abbrev AzD := @Tryz.underlying34
abbrev BcM := @Tryz.underlying35
abbrev ud39 := @Tryz.underlying39
abbrev BcN := @Tryz.underlying41
abbrev ud42 := @Tryz.underlying42
abbrev ud45 := @Tryz.underlying45
abbrev BcO := @Tryz.underlying46
abbrev ud47 := @Tryz.underlying47
abbrev ud48 := @Tryz.underlying48
abbrev ud49 := @Tryz.underlying49
abbrev ud51 := @Tryz.underlying51
abbrev ud53 := @Tryz.underlying53
abbrev ud55 := @Tryz.underlying55
abbrev AzE := @Tryz.underlying63
abbrev AzF := @Tryz.underlying65
abbrev ud70 := @Tryz.underlying70
abbrev AzG := @Tryz.underlying75
abbrev e6_ := @Tryz.underlying78
abbrev BcP := @Tryz.underlying79
abbrev AhC := @Tryz.underlying83
abbrev ud86 := @Tryz.underlying86
abbrev ud93 := @Tryz.underlying93
abbrev ud94 := @Tryz.underlying94
abbrev ud95 := @Tryz.underlying95
abbrev ud97 := @Tryz.underlying97
abbrev ud101 := @Tryz.underlying101
abbrev AyP := @Tryz.underlying109
abbrev e4_ := @Tryz.underlying112
abbrev AnV := @Tryz.underlying114
abbrev ud125 := @Tryz.underlying125
abbrev AyQ := @Tryz.underlying132
abbrev AnW := @Tryz.underlying135
abbrev AnX := @Tryz.underlying141
abbrev ud145 := @Tryz.underlying145
abbrev ud152 := @Tryz.underlying152
abbrev AyR := @Tryz.underlying159
abbrev AgZ := @Tryz.underlying167
abbrev AyS := @Tryz.underlying173
abbrev AyT := @Tryz.underlying185
abbrev AnY := @Tryz.underlying187
abbrev AyU := @Tryz.underlying189
abbrev AyV := @Tryz.underlying197
abbrev ud200 := @Tryz.underlying200
abbrev AnZ := @Tryz.underlying202
abbrev e5_ := @Tryz.underlying233
abbrev AoA := @Tryz.underlying236
abbrev AhA := @Tryz.underlying239
abbrev AyW := @Tryz.underlying256
abbrev AyX := @Tryz.underlying258
abbrev AyY := @Tryz.underlying265
abbrev AyZ := @Tryz.underlying267
abbrev AzA := @Tryz.underlying271
abbrev AzB := @Tryz.underlying286
abbrev AoB := @Tryz.underlying288
abbrev AzC := @Tryz.underlying293
abbrev AoC := @Tryz.underlying295
end Go.Proofs.YtccefppppedgkaaGreat
namespace Go.Proofs.YtccefppppedgkaaGreat
open Go.RowKit
section
section
variable {P:Program} {w:World}
end
end
section
theorem LC : ∀(sel:List Nat) (os:List Ob) (heap:List Ob),BT heap sel os=BH heap (sel.zip os)
 | [],_,_=>by simp [BT,BH]
 |_::_,[],_=>by simp [BT,BH]
 |i::sel,o::os,heap=>by rw [BT,kI,BH,LC sel os]
def AdR:AV→Bool
 |.ptr _ _=>true
 |.lp _=>true
 |.rp _ _ _ _=>true
 |_=>false
section
variable {P:Program} {ops:Array Oper} {Q:QS} {rest:List Oper} {o:Oper} {n:Fr} {T:Nat→AV} {heap:List Ob} {d:Nat}
theorem AaM (hw:AD n T ops o=true) (hd:o.dst=some d) (x:Operand) (ho:o.op = .nilCheck x) {y:AV} (hx:evA n T x=y) (hp:AdR y=true) (k:AL P ops Q rest n (pu T d y) heap):AL P ops Q (o::rest) n T heap:=by
 subst hx
 refine AL.val hw hd (fun e a w ρ Z Y hR=>⟨a.eval x,?_,hR.eval x⟩) k
 have hv:=hR.eval x
 have key : ∀(y:AV) (v:Value),AdR y=true→Val (Kn heap) ρ w Z Y y v → ∃p,v = .pointer (some p):=by
  intro y v hp hv
  cases hv<;>first|(cases hp;done)|exact ⟨_,rfl⟩
 obtain ⟨p,e1⟩:=key _ _ hp hv
 unfold execOp;rw [ho]
 simp only [e1]
 rfl
theorem AoQ {F:List Dl→(Nat→AV)→List Ob→Prop} {acc:List Dl} (hw:AD n T ops o=true) (hd:o.dst=some d) (x:Operand) (ho:o.op = .nilCheck x) {y:AV} (hx:evA n T x=y) (hp:AdR y=true) (k:RG P ops n F rest (acc++[⟨some d,y,[],[]⟩]) (pu T d y) heap):RG P ops n F (o::rest) acc T heap :=
 RG.cons hd.symm (fun T' h' hT hH hlen_=>AaM aM hd x ho dA hp (AL.nil ⟨rfl,rfl,rfl⟩)) rfl rfl k
theorem AtS (hw:AD n T ops o=true) (hd:o.dst=some d) (c x y:Operand) (ho:o.op = .pick c x y) (hc:evA n T c = .t (.v (.bool true))) {u:Tr} (hx:evA n T x = .t u) (k:AL P ops Q rest n (pu T d (.t u)) heap):AL P ops Q (o::rest) n T heap:=VQ hw hd c x y ho hc hx rfl rfl k
theorem AtR (hw:AD n T ops o=true) (hd:o.dst=some d) (c x y:Operand) (ho:o.op = .pick c x y) (hc:evA n T c = .t (.v (.bool false))) {u:Tr} (hx:evA n T y = .t u) (k:AL P ops Q rest n (pu T d (.t u)) heap):AL P ops Q (o::rest) n T heap:=VQ hw hd c x y ho hc rfl hx rfl k
theorem AuG {F:List Dl→(Nat→AV)→List Ob→Prop} {acc:List Dl} (hw:AD n T ops o=true) (hd:o.dst=some d) (c x y:Operand) (ho:o.op = .pick c x y) (hc:evA n T c = .t (.v (.bool true))) {u:Tr} (hx:evA n T x = .t u) (k:RG P ops n F rest (acc++[⟨some d,.t u,[],[]⟩]) (pu T d (.t u)) heap):RG P ops n F (o::rest) acc T heap:=f7_ hw hd c x y ho hc hx rfl rfl k
theorem AuF {F:List Dl→(Nat→AV)→List Ob→Prop} {acc:List Dl} (hw:AD n T ops o=true) (hd:o.dst=some d) (c x y:Operand) (ho:o.op = .pick c x y) (hc:evA n T c = .t (.v (.bool false))) {u:Tr} (hx:evA n T y = .t u) (k:RG P ops n F rest (acc++[⟨some d,.t u,[],[]⟩]) (pu T d (.t u)) heap):RG P ops n F (o::rest) acc T heap:=f7_ hw hd c x y ho hc rfl hx rfl k
theorem AaR (hw:AD n T ops o=true) (hd:o.dst=some d) {f:FuncId} {fn:Func} (hf:P.funcs[f]? = some fn) {args:Array Operand} {tys:Array TypeId}
  (ho:o.op = .call { callee:=.value (.func f),args:=args,argTypes:=tys }) (sel:List Nat) {xs:List AV} {H:List Ob} {r:AV} {L:List Ob} (hc:Cio P f xs H r L) {acc:List Nat} {F:List Dl→(Nat→AV)→List Ob→Prop} {ac:List Dl}
  (hn : (fn.name == "runtime.NumGoroutine") = false) (hb : fn.body.isNone = false) (hnd : sel.Nodup) (hL : L.length = sel.length) (ha : YW heap 3 (PD (args.toList.map (evA n T))) = acc)
  (hH : ∀h',(∀i,acc.contains i=true→h'[i]? = heap[i]?)→FF h' sel sel H) (hp : ∀h',(∀i,acc.contains i=true→h'[i]? = heap[i]?)→CH h' sel (args.toList.map (evA n T)) xs)
  {N:Nat} (hN:heap.length=N) {r':AV} (hr:upA (gIO sel N) r=r') {U:List (Nat × Ob)} (hU:sel.zip (L.map (upO (gIO sel N)))=U) {heap':List Ob} (hh:BH heap U=heap')
  (k:RG P ops n F rest (ac++[⟨some d,r',U,acc⟩]) (pu T d r') heap'):RG P ops n F (o::rest) ac T heap:=by
 subst hr hN hU
 have hlk : ∀x∈args.toList,x∈o.op.operands.toList:=fun x hx=>by rw [ho];simp only [Op.operands,Call.operands,kP];exact iF _ hx
 refine RG.cons (D:=⟨some d,_,sel.zip (L.map (upO (gIO sel heap.length))),acc⟩) hd.symm (fun T' h' hT hA hl=>?_) rfl hh k
 have hargs:args.toList.map (evA n T')=args.toList.map (evA n T):=jU fun x hx=>ev_eq hT (hlk x hx)
 have hs : ∀i,acc.contains i=true→h'[i]? = heap[i]? := fun i hi=>hA i (by simpa using hi)
 refine QI aM hd hf hn hb ho sel hnd hc (hH h' hs) (by rw [hargs];exact hp h' hs) hl rfl rfl (AL.nil ⟨rfl,rfl,?_⟩)
 rw [List.drop_of_length_le (by omega),gO,gU,LC]
 rfl
end
end
section
section
variable {P:Program} {ops:Array Oper} {Q:QS} {rest:List Oper} {o:Oper} {n:Fr} {T:Nat→AV} {heap:List Ob} {d:Nat}
end
end
end Go.Proofs.YtccefppppedgkaaGreat
