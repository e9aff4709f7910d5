/- Joined: XTypes, XTEq, XTIoR, XTArr. -/
import Derived.Test.YtccefppppedgkaaGreatRows
import Derived.KernelRfl
import Derived.Test.YtccefppppedgkaaGreatKHd
import Derived.Laws.StructEq
set_option linter.unusedVariables false
set_option linter.unusedSimpArgs false
set_option linter.unnecessarySimpa false
set_option maxRecDepth 100000
set_option maxHeartbeats 64000000
namespace Go.Proofs.YtccefppppedgkaaGreat
theorem inf3:(Tryz.prog.info? 3).map (fun i=>(i.zero,i.size,i.bytes))=some (some (.int .i64 0),1,8):=by kernel_rfl
theorem AlQ:(Tryz.prog.info? 4).map (fun i=>(i.zero,i.size,i.bytes))=some (some (.bool false),1,1):=by kernel_rfl
theorem c1_:(Tryz.prog.info? 22).map (fun i=>(i.zero,i.size,i.bytes))=some (some (.slice none 0 0),1,24):=by kernel_rfl
theorem PZ:(Tryz.prog.info? 24).map (fun i=>(i.zero,i.size,i.bytes))=some (some (.agg #[.int .i64 0,.int .i64 0,.int .i64 0,.int .i64 0,.int .i64 0,.int .i64 0,.int .i64 0,.int .i64 0,.int .i64 0,.int .i64 0,.slice none 0 0]),11,104):=by kernel_rfl
theorem AyU:(Tryz.prog.info? 25).map (fun i=>(i.zero,i.size,i.bytes))=some (some (.slice none 0 0),1,24):=by kernel_rfl
theorem AyV:(Tryz.prog.info? 28).map (fun i=>(i.zero,i.size,i.bytes))=some (some (.pointer none),1,8):=by kernel_rfl
theorem inf30:(Tryz.prog.info? 30).map (fun i=>(i.zero,i.size,i.bytes))=some (some (.slice none 0 0),1,24):=by kernel_rfl
theorem inf32:(Tryz.prog.info? 32).map (fun i=>(i.zero,i.size,i.bytes))=some (some (.agg #[.int .i64 0,.int .i64 0,.int .i64 0,.bool false,.slice none 0 0]),5,56):=by kernel_rfl
theorem c2_:(Tryz.prog.info? 34).map (fun i=>(i.zero,i.size,i.bytes))=some (some (.agg #[.int .i64 0,.int .i64 0,.int .i64 0,.int .i64 0,.int .i64 0,.bool false,.slice none 0 0,.int .i64 0,.slice none 0 0]),9,104):=by kernel_rfl
theorem AyW:(Tryz.prog.info? 35).map (fun i=>(i.zero,i.size,i.bytes))=some (some (.int .i64 0),1,8):=by kernel_rfl
theorem inf39:(Tryz.prog.info? 39).map (fun i=>(i.zero,i.size,i.bytes))=some (some (.slice none 0 0),1,24):=by kernel_rfl
theorem AyX:(Tryz.prog.info? 41).map (fun i=>(i.zero,i.size,i.bytes))=some (some (.slice none 0 0),1,24):=by kernel_rfl
theorem inf42:(Tryz.prog.info? 42).map (fun i=>(i.zero,i.size,i.bytes))=some (some (.slice none 0 0),1,24):=by kernel_rfl
theorem inf45:(Tryz.prog.info? 45).map (fun i=>(i.zero,i.size,i.bytes))=some (some (.agg #[.int .i64 0,.int .i64 0]),2,16):=by kernel_rfl
theorem inf46:(Tryz.prog.info? 46).map (fun i=>(i.zero,i.size,i.bytes))=some (some (.int .u64 0),1,8):=by kernel_rfl
theorem ApY:(Tryz.prog.info? 47).map (fun i=>(i.zero,i.size,i.bytes))=some (some (.slice none 0 0),1,24):=by kernel_rfl
theorem r7_:(Tryz.prog.info? 48).map (fun i=>(i.zero,i.size,i.bytes))=some (some (.slice none 0 0),1,24):=by kernel_rfl
theorem r8_:(Tryz.prog.info? 49).map (fun i=>(i.zero,i.size,i.bytes))=some (some (.slice none 0 0),1,24):=by kernel_rfl
theorem inf51:(Tryz.prog.info? 51).map (fun i=>(i.zero,i.size,i.bytes))=some (some (.agg #[.int .i64 0,.int .i64 0,.slice none 0 0,.slice none 0 0,.int .i64 0]),5,72):=by kernel_rfl
theorem inf53:(Tryz.prog.info? 53).map (fun i=>(i.zero,i.size,i.bytes))=some (some (.agg #[.int .i64 0,.int .i64 0,.int .i64 0,.int .i64 0]),4,32):=by kernel_rfl
theorem inf55:(Tryz.prog.info? 55).map (fun i=>(i.zero,i.size,i.bytes))=some (some (.agg #[.int .i64 0,.int .i64 0,.int .i64 0,.int .i64 0,.int .i64 0,.bool false,.slice none 0 0,.bool false,.int .i64 0,.int .i64 0,.int .i64 0,.int .i64 0,.int .i64 0,.bool false,.int .i64 0,.int .i64 0,.slice none 0 0,.slice none 0 0,.int .u64 0,.slice none 0 0,.slice none 0 0,.slice none 0 0,.int .i64 0,.int .i64 0,.slice none 0 0,.slice none 0 0,.int .i64 0,.int .i64 0,.int .i64 0,.int .i64 0,.int .i64 0,.bool false,.bool false,.bool false]),34,384):=by kernel_rfl
theorem inf63:(Tryz.prog.info? 63).map (fun i=>(i.zero,i.size,i.bytes))=some (some (.agg #[.int .i64 0,.int .i64 0,.slice none 0 0]),3,40):=by kernel_rfl
theorem inf65:(Tryz.prog.info? 65).map (fun i=>(i.zero,i.size,i.bytes))=some (some (.agg #[.int .i64 0,.int .i64 0,.int .i64 0,.int .i64 0,.int .i64 0,.int .i64 0,.bool false,.slice none 0 0]),8,80):=by kernel_rfl
theorem inf70:(Tryz.prog.info? 70).map (fun i=>(i.zero,i.size,i.bytes))=some (some (.slice none 0 0),1,24):=by kernel_rfl
theorem inf75:(Tryz.prog.info? 75).map (fun i=>(i.zero,i.size,i.bytes))=some (some (.agg #[.int .i64 0,.int .i64 0,.int .i64 0,.int .i64 0,.int .i64 0,.int .i64 0,.int .i64 0,.bool false,.slice none 0 0,.int .i64 0,.int .i64 0,.int .i64 0,.int .i64 0]),13,120):=by kernel_rfl
theorem ApZ:(Tryz.prog.info? 78).map (fun i=>(i.zero,i.size,i.bytes))=some (some (.slice none 0 0),1,24):=by kernel_rfl
theorem AyY:(Tryz.prog.info? 79).map (fun i=>(i.zero,i.size,i.bytes))=some (some (.pointer none),1,8):=by kernel_rfl
theorem HV:(Tryz.prog.info? 83).map (fun i=>(i.zero,i.size,i.bytes))=some (some (.agg #[.int .i64 0,.int .i64 0,.int .i64 0,.int .u64 0,.int .u64 0,.int .u64 0,.bool false]),7,56):=by kernel_rfl
theorem AqA:(Tryz.prog.info? 86).map (fun i=>(i.zero,i.size,i.bytes))=some (some (.slice none 0 0),1,24):=by kernel_rfl
theorem AfI:(Tryz.prog.info? 93).map (fun i=>(i.zero,i.size,i.bytes))=some (some (.slice none 0 0),1,24):=by kernel_rfl
theorem c3_:(Tryz.prog.info? 94).map (fun i=>(i.zero,i.size,i.bytes))=some (some (.slice none 0 0),1,24):=by kernel_rfl
theorem AfJ:(Tryz.prog.info? 95).map (fun i=>(i.zero,i.size,i.bytes))=some (some (.slice none 0 0),1,24):=by kernel_rfl
theorem inf97:(Tryz.prog.info? 97).map (fun i=>(i.zero,i.size,i.bytes))=some (some (.agg #[.int .i64 0,.slice none 0 0,.slice none 0 0,.slice none 0 0]),4,80):=by kernel_rfl
theorem inf101:(Tryz.prog.info? 101).map (fun i=>(i.zero,i.size,i.bytes))=some (some (.agg #[.int .i64 0,.int .i64 0,.bool false,.bool false,.slice none 0 0]),5,48):=by kernel_rfl
theorem AsI:(Tryz.prog.info? 109).map (fun i=>(i.zero,i.size,i.bytes))=some (some (.nilFunc),1,8):=by kernel_rfl
theorem AsJ:(Tryz.prog.info? 112).map (fun i=>(i.zero,i.size,i.bytes))=some (some (.slice none 0 0),1,24):=by kernel_rfl
theorem AfC:(Tryz.prog.info? 114).map (fun i=>(i.zero,i.size,i.bytes))=some (some (.agg #[.int .i64 0,.int .i64 0,.int .i64 0,.int .i64 0,.int .i64 0,.int .i64 0,.int .i64 0,.int .i64 0,.int .i64 0,.int .i64 0,.slice none 0 0,.pointer none,.slice none 0 0,.slice none 0 0,.slice none 0 0,.slice none 0 0,.slice none 0 0,.slice none 0 0,.int .i64 0]),19,264):=by kernel_rfl
theorem inf125:(Tryz.prog.info? 125).map (fun i=>(i.zero,i.size,i.bytes))=some (some (.agg #[.int .i64 0,.slice none 0 0,.slice none 0 0]),3,56):=by kernel_rfl
theorem AsK:(Tryz.prog.info? 132).map (fun i=>(i.zero,i.size,i.bytes))=some (some (.nilFunc),1,8):=by kernel_rfl
theorem AfD:(Tryz.prog.info? 135).map (fun i=>(i.zero,i.size,i.bytes))=some (some (.agg #[.slice none 0 0,.slice none 0 0,.slice none 0 0,.bool false]),4,80):=by kernel_rfl
theorem inf141:(Tryz.prog.info? 141).map (fun i=>(i.zero,i.size,i.bytes))=some (some (.agg #[.int .i64 0,.int .i64 0,.int .i64 0]),3,24):=by kernel_rfl
theorem inf145:(Tryz.prog.info? 145).map (fun i=>(i.zero,i.size,i.bytes))=some (some (.agg #[.bool false,.bool false,.bool false,.int .i64 0,.slice none 0 0,.int .i64 0,.int .i64 0]),7,56):=by kernel_rfl
theorem inf152:(Tryz.prog.info? 152).map (fun i=>(i.zero,i.size,i.bytes))=some (some (.agg #[.int .i64 0,.bool false,.slice none 0 0]),3,40):=by kernel_rfl
theorem inf167:(Tryz.prog.info? 167).map (fun i=>(i.zero,i.size,i.bytes))=some (some (.agg #[.bool false,.int .i64 0,.int .i64 0,.slice none 0 0]),4,48):=by kernel_rfl
theorem AsL:(Tryz.prog.info? 173).map (fun i=>(i.zero,i.size,i.bytes))=some (some (.pointer none),1,8):=by kernel_rfl
theorem AsM:(Tryz.prog.info? 185).map (fun i=>(i.zero,i.size,i.bytes))=some (some (.pointer none),1,8):=by kernel_rfl
theorem AfE:(Tryz.prog.info? 187).map (fun i=>(i.zero,i.size,i.bytes))=some (some (.agg #[.int .i64 0,.int .i64 0,.int .i64 0,.int .i64 0,.int .i64 0,.bool false,.slice none 0 0,.bool false,.int .i64 0,.int .i64 0,.int .i64 0,.int .i64 0,.int .i64 0,.bool false,.int .i64 0,.int .i64 0,.slice none 0 0,.slice none 0 0,.int .u64 0,.slice none 0 0,.slice none 0 0,.slice none 0 0,.int .i64 0,.int .i64 0,.slice none 0 0,.slice none 0 0,.int .i64 0,.int .i64 0,.int .i64 0,.int .i64 0,.int .i64 0,.bool false,.bool false,.bool false,.int .i64 0,.int .i64 0,.int .i64 0,.int .i64 0,.int .i64 0,.int .i64 0,.int .i64 0,.int .i64 0,.int .i64 0,.int .i64 0,.slice none 0 0,.pointer none,.int .i64 0,.int .i64 0,.bool false,.slice none 0 0]),50,544):=by kernel_rfl
theorem AsN:(Tryz.prog.info? 189).map (fun i=>(i.zero,i.size,i.bytes))=some (some (.nilFunc),1,8):=by kernel_rfl
theorem AsO:(Tryz.prog.info? 197).map (fun i=>(i.zero,i.size,i.bytes))=some (some (.nilFunc),1,8):=by kernel_rfl
theorem AsP:(Tryz.prog.info? 200).map (fun i=>(i.zero,i.size,i.bytes))=some (some (.slice none 0 0),1,24):=by kernel_rfl
theorem AfF:(Tryz.prog.info? 202).map (fun i=>(i.zero,i.size,i.bytes))=some (some (.agg #[.int .i64 0,.int .i64 0,.bool false,.bool false,.slice none 0 0,.slice none 0 0,.int .i64 0,.int .i64 0,.int .i64 0,.int .i64 0,.slice none 0 0]),11,128):=by kernel_rfl
theorem inf233:(Tryz.prog.info? 233).map (fun i=>(i.zero,i.size,i.bytes))=some (some (.agg #[.int .i64 0,.int .i64 0]),2,16):=by kernel_rfl
theorem inf236:(Tryz.prog.info? 236).map (fun i=>(i.zero,i.size,i.bytes))=some (some (.agg #[.int .i64 0,.int .i64 0,.int .i64 0]),3,24):=by kernel_rfl
theorem inf239:(Tryz.prog.info? 239).map (fun i=>(i.zero,i.size,i.bytes))=some (some (.agg #[.int .i64 0,.int .i64 0,.int .i64 0,.int .i64 0,.int .i64 0]),5,40):=by kernel_rfl
theorem AsQ:(Tryz.prog.info? 256).map (fun i=>(i.zero,i.size,i.bytes))=some (some (.nilFunc),1,8):=by kernel_rfl
theorem AsR:(Tryz.prog.info? 258).map (fun i=>(i.zero,i.size,i.bytes))=some (some (.nilFunc),1,8):=by kernel_rfl
theorem AsS:(Tryz.prog.info? 265).map (fun i=>(i.zero,i.size,i.bytes))=some (some (.nilFunc),1,8):=by kernel_rfl
theorem AsT:(Tryz.prog.info? 267).map (fun i=>(i.zero,i.size,i.bytes))=some (some (.nilFunc),1,8):=by kernel_rfl
theorem AsU:(Tryz.prog.info? 271).map (fun i=>(i.zero,i.size,i.bytes))=some (some (.nilFunc),1,8):=by kernel_rfl
theorem AsV:(Tryz.prog.info? 286).map (fun i=>(i.zero,i.size,i.bytes))=some (some (.pointer none),1,8):=by kernel_rfl
theorem AfG:(Tryz.prog.info? 288).map (fun i=>(i.zero,i.size,i.bytes))=some (some (.agg #[.slice none 0 0]),1,24):=by kernel_rfl
theorem AsW:(Tryz.prog.info? 293).map (fun i=>(i.zero,i.size,i.bytes))=some (some (.pointer none),1,8):=by kernel_rfl
theorem AfH:(Tryz.prog.info? 295).map (fun i=>(i.zero,i.size,i.bytes))=some (some (.agg #[.int .i64 0,.slice none 0 0,.slice none 0 0,.slice none 0 0,.int .i64 0,.int .i64 0,.int .i64 0,.int .i64 0,.int .i64 0,.int .i64 0,.int .i64 0,.int .i64 0,.int .i64 0,.int .i64 0,.slice none 0 0,.int .i64 0,.int .i64 0]),17,200):=by kernel_rfl
abbrev ud3 := @Tryz.underlying3
abbrev ud4 := @Tryz.underlying4
abbrev ud22 := @Tryz.underlying22
abbrev i4_ := @Tryz.underlying24
abbrev BeY := @Tryz.underlying25
abbrev BeZ := @Tryz.underlying28
abbrev ud30 := @Tryz.underlying30
abbrev ud32 := @Tryz.underlying32
abbrev BbR := @Tryz.underlying34
abbrev BfA := @Tryz.underlying35
abbrev ud39 := @Tryz.underlying39
abbrev ud41 := @Tryz.underlying41
abbrev ud42 := @Tryz.underlying42
abbrev ud45 := @Tryz.underlying45
abbrev BfB := @Tryz.underlying46
abbrev ud47 := @Tryz.underlying47
abbrev ud48 := @Tryz.underlying48
abbrev ud49 := @Tryz.underlying49
abbrev ud51 := @Tryz.underlying51
abbrev ud53 := @Tryz.underlying53
abbrev ud55 := @Tryz.underlying55
abbrev BbS := @Tryz.underlying63
abbrev BbT := @Tryz.underlying65
abbrev ud70 := @Tryz.underlying70
abbrev BbU := @Tryz.underlying75
abbrev i5_ := @Tryz.underlying78
abbrev BfC := @Tryz.underlying79
abbrev AjG := @Tryz.underlying83
abbrev ud86 := @Tryz.underlying86
abbrev ud93 := @Tryz.underlying93
abbrev ud94 := @Tryz.underlying94
abbrev ud95 := @Tryz.underlying95
abbrev ud97 := @Tryz.underlying97
abbrev ud101 := @Tryz.underlying101
abbrev BbD := @Tryz.underlying109
abbrev i2_ := @Tryz.underlying112
abbrev AqJ := @Tryz.underlying114
abbrev ud125 := @Tryz.underlying125
abbrev BbE := @Tryz.underlying132
abbrev AqK := @Tryz.underlying135
abbrev AqL := @Tryz.underlying141
abbrev ud145 := @Tryz.underlying145
abbrev ud152 := @Tryz.underlying152
abbrev BbF := @Tryz.underlying159
abbrev AjE := @Tryz.underlying167
abbrev BbG := @Tryz.underlying173
abbrev BbH := @Tryz.underlying185
abbrev AqM := @Tryz.underlying187
abbrev BbI := @Tryz.underlying189
abbrev BbJ := @Tryz.underlying197
abbrev ud200 := @Tryz.underlying200
abbrev AqN := @Tryz.underlying202
abbrev i3_ := @Tryz.underlying233
abbrev AqO := @Tryz.underlying236
abbrev AjF := @Tryz.underlying239
abbrev BbK := @Tryz.underlying256
abbrev BbL := @Tryz.underlying258
abbrev BbM := @Tryz.underlying265
abbrev BbN := @Tryz.underlying267
abbrev BbO := @Tryz.underlying271
abbrev BbP := @Tryz.underlying286
abbrev AqP := @Tryz.underlying288
abbrev BbQ := @Tryz.underlying293
abbrev AqQ := @Tryz.underlying295
end Go.Proofs.YtccefppppedgkaaGreat
namespace Go.Proofs.YtccefppppedgkaaGreat
open Go.RowKit
section
section
variable {P:Program} {w:World}
end
end
section
theorem LR : ∀(sel:List Nat) (os:List Ob) (heap:List Ob),BT heap sel os=BI heap (sel.zip os)
 | [],_,_=>by simp [BT,BI]
 |_::_,[],_=>by simp [BT,BI]
 |i::sel,o::os,heap=>by rw [BT,kV,BI,LR sel os]
def AfQ:AV→Bool
 |.ptr _ _=>true
 |.lp _=>true
 |.rp _ _ _ _=>true
 |_=>false
section
variable {P:Program} {ops:Array Oper} {Q:QS} {rest:List Oper} {o:Oper} {n:Fr} {T:Nat→AV} {heap:List Ob} {d:Nat}
theorem AcK (hw:AD n T ops o=true) (hd:o.dst=some d) (x:Operand) (ho:o.op = .nilCheck x) {y:AV} (hx:evA n T x=y) (hp:AfQ y=true) (k:AL P ops Q rest n (pu T d y) heap):AL P ops Q (o::rest) n T heap:=by
 subst hx
 refine AL.val hw hd (fun e a w ρ Z Y hR=>⟨a.eval x,?_,hR.eval x⟩) k
 have hv:=hR.eval x
 have key : ∀(y:AV) (v:Value),AfQ y=true→Val (Kn heap) ρ w Z Y y v → ∃p,v = .pointer (some p):=by
  intro y v hp hv
  cases hv<;>first|(cases hp;done)|exact ⟨_,rfl⟩
 obtain ⟨p,e1⟩:=key _ _ hp hv
 unfold execOp;rw [ho]
 simp only [e1]
 rfl
theorem ArD {F:List Dl→(Nat→AV)→List Ob→Prop} {acc:List Dl} (hw:AD n T ops o=true) (hd:o.dst=some d) (x:Operand) (ho:o.op = .nilCheck x) {y:AV} (hx:evA n T x=y) (hp:AfQ y=true) (k:RG P ops n F rest (acc++[⟨some d,y,[],[]⟩]) (pu T d y) heap):RG P ops n F (o::rest) acc T heap :=
 RG.cons hd.symm (fun T' h' hT hH hlen_=>AcK aM hd x ho dC hp (AL.nil ⟨rfl,rfl,rfl⟩)) rfl rfl k
theorem AwI (hw:AD n T ops o=true) (hd:o.dst=some d) (c x y:Operand) (ho:o.op = .pick c x y) (hc:evA n T c = .t (.v (.bool true))) {u:Tr} (hx:evA n T x = .t u) (k:AL P ops Q rest n (pu T d (.t u)) heap):AL P ops Q (o::rest) n T heap:=XE hw hd c x y ho hc hx rfl rfl k
theorem AwH (hw:AD n T ops o=true) (hd:o.dst=some d) (c x y:Operand) (ho:o.op = .pick c x y) (hc:evA n T c = .t (.v (.bool false))) {u:Tr} (hx:evA n T y = .t u) (k:AL P ops Q rest n (pu T d (.t u)) heap):AL P ops Q (o::rest) n T heap:=XE hw hd c x y ho hc rfl hx rfl k
theorem AwU {F:List Dl→(Nat→AV)→List Ob→Prop} {acc:List Dl} (hw:AD n T ops o=true) (hd:o.dst=some d) (c x y:Operand) (ho:o.op = .pick c x y) (hc:evA n T c = .t (.v (.bool true))) {u:Tr} (hx:evA n T x = .t u) (k:RG P ops n F rest (acc++[⟨some d,.t u,[],[]⟩]) (pu T d (.t u)) heap):RG P ops n F (o::rest) acc T heap:=j7_ hw hd c x y ho hc hx rfl rfl k
theorem AwT {F:List Dl→(Nat→AV)→List Ob→Prop} {acc:List Dl} (hw:AD n T ops o=true) (hd:o.dst=some d) (c x y:Operand) (ho:o.op = .pick c x y) (hc:evA n T c = .t (.v (.bool false))) {u:Tr} (hx:evA n T y = .t u) (k:RG P ops n F rest (acc++[⟨some d,.t u,[],[]⟩]) (pu T d (.t u)) heap):RG P ops n F (o::rest) acc T heap:=j7_ hw hd c x y ho hc rfl hx rfl k
theorem AcR (hw:AD n T ops o=true) (hd:o.dst=some d) {f:FuncId} {fn:Func} (hf:P.funcs[f]? = some fn) {args:Array Operand} {tys:Array TypeId}
  (ho:o.op = .call { callee:=.value (.func f),args:=args,argTypes:=tys }) (sel:List Nat) {xs:List AV} {H:List Ob} {r:AV} {L:List Ob} (hc:Cio P f xs H r L) {acc:List Nat} {F:List Dl→(Nat→AV)→List Ob→Prop} {ac:List Dl}
  (hn : (fn.name == "runtime.NumGoroutine") = false) (hb : fn.body.isNone = false) (hnd : sel.Nodup) (hL : L.length = sel.length) (ha : a7_ heap 3 (PY (args.toList.map (evA n T))) = acc)
  (hH : ∀h',(∀i,acc.contains i=true→h'[i]? = heap[i]?)→FP h' sel sel H) (hp : ∀h',(∀i,acc.contains i=true→h'[i]? = heap[i]?)→CJ h' sel (args.toList.map (evA n T)) xs)
  {N:Nat} (hN:heap.length=N) {r':AV} (hr:upA (gIO sel N) r=r') {U:List (Nat × Ob)} (hU:sel.zip (L.map (upO (gIO sel N)))=U) {heap':List Ob} (hh:BI heap U=heap')
  (k:RG P ops n F rest (ac++[⟨some d,r',U,acc⟩]) (pu T d r') heap'):RG P ops n F (o::rest) ac T heap:=by
 subst hr hN hU
 have hlk : ∀x∈args.toList,x∈o.op.operands.toList:=fun x hx=>by rw [ho];simp only [Op.operands,Call.operands,lH];exact iR _ hx
 refine RG.cons (D:=⟨some d,_,sel.zip (L.map (upO (gIO sel heap.length))),acc⟩) hd.symm (fun T' h' hT hA hl=>?_) rfl hh k
 have hargs:args.toList.map (evA n T')=args.toList.map (evA n T):=jR fun x hx=>ev_eq hT (hlk x hx)
 have hs : ∀i,acc.contains i=true→h'[i]? = heap[i]? := fun i hi=>hA i eX
 refine RM aM hd hf hn hb ho sel hnd hc (hH h' hs) (by rw [hargs];exact hp h' hs) hl rfl rfl (AL.nil ⟨rfl,rfl,?_⟩)
 rw [List.drop_of_length_le (by omega),gX,iC,LR]
 rfl
end
end
section
section
variable {P:Program} {ops:Array Oper} {Q:QS} {rest:List Oper} {o:Oper} {n:Fr} {T:Nat→AV} {heap:List Ob} {d:Nat}
end
end
end Go.Proofs.YtccefppppedgkaaGreat
