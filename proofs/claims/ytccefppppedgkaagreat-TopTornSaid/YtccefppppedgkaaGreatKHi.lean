/- Joined: XTUI, XTTopD, XTWaitP, XTIdxF, XTAbb, XTPlain, XTBit2, XTOkW, XTClones, XTCases, XTPWaits. -/
import Derived.Test.YtccefppppedgkaaGreatKHh
import Derived.Laws.BitsAllLaws
set_option linter.unusedVariables false
set_option linter.unusedSimpArgs false
set_option linter.unnecessarySimpa false
set_option maxRecDepth 100000
set_option maxHeartbeats 64000000
namespace Go.Proofs.YtccefppppedgkaaGreat
open Go.RowKit
section
@[reducible] def iu3:=Ud.mk ud3
@[reducible] def iu4:=Ud.mk ud4
@[reducible] def BdK:=Ud.mk ud22
@[reducible] def BdL:=Ud.mk i4_
@[reducible] def BdM:=Ud.mk BeY
@[reducible] def BdN:=Ud.mk BeZ
@[reducible] def BdO:=Ud.mk ud30
@[reducible] def BdP:=Ud.mk ud32
@[reducible] def BdQ:=Ud.mk BbR
@[reducible] def BdR:=Ud.mk BfA
@[reducible] def BdS:=Ud.mk ud39
@[reducible] def BdT:=Ud.mk ud41
@[reducible] def BdU:=Ud.mk ud42
@[reducible] def BdV:=Ud.mk ud45
@[reducible] def BdW:=Ud.mk BfB
@[reducible] def BdX:=Ud.mk ud47
@[reducible] def BdY:=Ud.mk ud48
@[reducible] def BdZ:=Ud.mk ud49
@[reducible] def BeA:=Ud.mk ud51
@[reducible] def BeB:=Ud.mk ud53
@[reducible] def BeC:=Ud.mk ud55
@[reducible] def BeD:=Ud.mk BbS
@[reducible] def BeE:=Ud.mk BbT
@[reducible] def BeF:=Ud.mk ud70
@[reducible] def BeG:=Ud.mk BbU
@[reducible] def BeH:=Ud.mk i5_
@[reducible] def BeI:=Ud.mk BfC
@[reducible] def BeJ:=Ud.mk AjG
@[reducible] def BeK:=Ud.mk ud86
@[reducible] def BeL:=Ud.mk ud93
@[reducible] def BeM:=Ud.mk ud94
@[reducible] def BeN:=Ud.mk ud95
@[reducible] def BeO:=Ud.mk ud97
@[reducible] def AyZ:=Ud.mk ud101
@[reducible] def AzA:=Ud.mk BbD
@[reducible] def AzB:=Ud.mk i2_
@[reducible] def AzC:=Ud.mk AqJ
@[reducible] def AzD:=Ud.mk ud125
@[reducible] def AzE:=Ud.mk BbE
@[reducible] def AzF:=Ud.mk AqK
@[reducible] def AzG:=Ud.mk AqL
@[reducible] def AzH:=Ud.mk ud145
@[reducible] def AzI:=Ud.mk ud152
@[reducible] def AzJ:=Ud.mk BbF
@[reducible] def AzK:=Ud.mk AjE
@[reducible] def AzL:=Ud.mk BbG
@[reducible] def AzM:=Ud.mk BbH
@[reducible] def AzN:=Ud.mk AqM
@[reducible] def AzO:=Ud.mk BbI
@[reducible] def AzP:=Ud.mk BbJ
@[reducible] def AzQ:=Ud.mk ud200
@[reducible] def AzR:=Ud.mk AqN
@[reducible] def AzS:=Ud.mk i3_
@[reducible] def AzT:=Ud.mk AqO
@[reducible] def AzU:=Ud.mk AjF
@[reducible] def AzV:=Ud.mk BbK
@[reducible] def AzW:=Ud.mk BbL
@[reducible] def AzX:=Ud.mk BbM
@[reducible] def AzY:=Ud.mk BbN
@[reducible] def AzZ:=Ud.mk BbO
@[reducible] def BaA:=Ud.mk BbP
@[reducible] def BaB:=Ud.mk AqP
@[reducible] def BaC:=Ud.mk BbQ
@[reducible] def BaD:=Ud.mk AqQ
attribute [instance] iu3 iu4 BdK BdL BdM BdN BdO BdP BdQ BdR BdS BdT BdU BdV BdW BdX BdY BdZ BeA BeB BeC BeD BeE BeF BeG BeH BeI BeJ BeK BeL BeM BeN BeO AyZ AzA AzB AzC AzD AzE AzF AzG AzH AzI AzJ AzK AzL AzM AzN AzO AzP AzQ AzR AzS AzT AzU AzV AzW AzX AzY AzZ BaA BaB BaC BaD
@[reducible] def ii3:=In.mk inf3
@[reducible] def ii4:=In.mk AlQ
@[reducible] def BcF:=In.mk c1_
@[reducible] def BcG:=In.mk PZ
@[reducible] def BcH:=In.mk AyU
@[reducible] def BcI:=In.mk AyV
@[reducible] def BcJ:=In.mk inf30
@[reducible] def BcK:=In.mk inf32
@[reducible] def BcL:=In.mk c2_
@[reducible] def BcM:=In.mk AyW
@[reducible] def BcN:=In.mk inf39
@[reducible] def BcO:=In.mk AyX
@[reducible] def BcP:=In.mk inf42
@[reducible] def BcQ:=In.mk inf45
@[reducible] def BcR:=In.mk inf46
@[reducible] def BcS:=In.mk ApY
@[reducible] def BcT:=In.mk r7_
@[reducible] def BcU:=In.mk r8_
@[reducible] def BcV:=In.mk inf51
@[reducible] def BcW:=In.mk inf53
@[reducible] def BcX:=In.mk inf55
@[reducible] def BcY:=In.mk inf63
@[reducible] def BcZ:=In.mk inf65
@[reducible] def BdA:=In.mk inf70
@[reducible] def BdB:=In.mk inf75
@[reducible] def BdC:=In.mk ApZ
@[reducible] def BdD:=In.mk AyY
@[reducible] def BdE:=In.mk HV
@[reducible] def BdF:=In.mk AqA
@[reducible] def BdG:=In.mk AfI
@[reducible] def BdH:=In.mk c3_
@[reducible] def BdI:=In.mk AfJ
@[reducible] def BdJ:=In.mk inf97
@[reducible] def AxQ:=In.mk inf101
@[reducible] def AxR:=In.mk AsI
@[reducible] def AxS:=In.mk AsJ
@[reducible] def AxT:=In.mk AfC
@[reducible] def AxU:=In.mk inf125
@[reducible] def AxV:=In.mk AsK
@[reducible] def AxW:=In.mk AfD
@[reducible] def AxX:=In.mk inf141
@[reducible] def AxY:=In.mk inf145
@[reducible] def AxZ:=In.mk inf152
@[reducible] def AyA:=In.mk inf167
@[reducible] def AyB:=In.mk AsL
@[reducible] def AyC:=In.mk AsM
@[reducible] def AyD:=In.mk AfE
@[reducible] def AyE:=In.mk AsN
@[reducible] def AyF:=In.mk AsO
@[reducible] def AyG:=In.mk AsP
@[reducible] def AyH:=In.mk AfF
@[reducible] def AyI:=In.mk inf233
@[reducible] def AyJ:=In.mk inf236
@[reducible] def AyK:=In.mk inf239
@[reducible] def AyL:=In.mk AsQ
@[reducible] def AyM:=In.mk AsR
@[reducible] def AyN:=In.mk AsS
@[reducible] def AyO:=In.mk AsT
@[reducible] def AyP:=In.mk AsU
@[reducible] def AyQ:=In.mk AsV
@[reducible] def AyR:=In.mk AfG
@[reducible] def AyS:=In.mk AsW
@[reducible] def AyT:=In.mk AfH
attribute [instance] ii3 ii4 BcF BcG BcH BcI BcJ BcK BcL BcM BcN BcO BcP BcQ BcR BcS BcT BcU BcV BcW BcX BcY BcZ BdA BdB BdC BdD BdE BdF BdG BdH BdI BdJ AxQ AxR AxS AxT AxU AxV AxW AxX AxY AxZ AyA AyB AyC AyD AyE AyF AyG AyH AyI AyJ AyK AyL AyM AyN AyO AyP AyQ AyR AyS AyT
instance:Zr Tryz.prog 3 [.t (.v (.int .i64 0))]:=⟨_,_,_,inf3,rfl,rfl⟩
instance:Zr Tryz.prog 24 [.t (.v (.int .i64 0)),.t (.v (.int .i64 0)),.t (.v (.int .i64 0)),.t (.v (.int .i64 0)),.t (.v (.int .i64 0)),.t (.v (.int .i64 0)),.t (.v (.int .i64 0)),.t (.v (.int .i64 0)),.t (.v (.int .i64 0)),.t (.v (.int .i64 0)),.nl]:=⟨_,_,_,PZ,rfl,rfl⟩
instance:Zr Tryz.prog 32 [.t (.v (.int .i64 0)),.t (.v (.int .i64 0)),.t (.v (.int .i64 0)),.t (.v (.bool false)),.nl]:=⟨_,_,_,inf32,rfl,rfl⟩
instance:Zr Tryz.prog 34 [.t (.v (.int .i64 0)),.t (.v (.int .i64 0)),.t (.v (.int .i64 0)),.t (.v (.int .i64 0)),.t (.v (.int .i64 0)),.t (.v (.bool false)),.nl,.t (.v (.int .i64 0)),.nl]:=⟨_,_,_,c2_,rfl,rfl⟩
instance:Zr Tryz.prog 45 [.t (.v (.int .i64 0)),.t (.v (.int .i64 0))]:=⟨_,_,_,inf45,rfl,rfl⟩
instance:Zr Tryz.prog 46 [.t (.v (.int .u64 0))]:=⟨_,_,_,inf46,rfl,rfl⟩
instance:Zr Tryz.prog 51 [.t (.v (.int .i64 0)),.t (.v (.int .i64 0)),.nl,.nl,.t (.v (.int .i64 0))]:=⟨_,_,_,inf51,rfl,rfl⟩
instance:Zr Tryz.prog 53 [.t (.v (.int .i64 0)),.t (.v (.int .i64 0)),.t (.v (.int .i64 0)),.t (.v (.int .i64 0))]:=⟨_,_,_,inf53,rfl,rfl⟩
instance:Zr Tryz.prog 55 [.t (.v (.int .i64 0)),.t (.v (.int .i64 0)),.t (.v (.int .i64 0)),.t (.v (.int .i64 0)),.t (.v (.int .i64 0)),.t (.v (.bool false)),.nl,.t (.v (.bool false)),.t (.v (.int .i64 0)),.t (.v (.int .i64 0)),.t (.v (.int .i64 0)),.t (.v (.int .i64 0)),.t (.v (.int .i64 0)),.t (.v (.bool false)),.t (.v (.int .i64 0)),.t (.v (.int .i64 0)),.nl,.nl,.t (.v (.int .u64 0)),.nl,.nl,.nl,.t (.v (.int .i64 0)),.t (.v (.int .i64 0)),.nl,.nl,.t (.v (.int .i64 0)),.t (.v (.int .i64 0)),.t (.v (.int .i64 0)),.t (.v (.int .i64 0)),.t (.v (.int .i64 0)),.t (.v (.bool false)),.t (.v (.bool false)),.t (.v (.bool false))]:=⟨_,_,_,inf55,rfl,rfl⟩
instance:Zr Tryz.prog 63 [.t (.v (.int .i64 0)),.t (.v (.int .i64 0)),.nl]:=⟨_,_,_,inf63,rfl,rfl⟩
instance:Zr Tryz.prog 65 [.t (.v (.int .i64 0)),.t (.v (.int .i64 0)),.t (.v (.int .i64 0)),.t (.v (.int .i64 0)),.t (.v (.int .i64 0)),.t (.v (.int .i64 0)),.t (.v (.bool false)),.nl]:=⟨_,_,_,inf65,rfl,rfl⟩
instance:Zr Tryz.prog 75 [.t (.v (.int .i64 0)),.t (.v (.int .i64 0)),.t (.v (.int .i64 0)),.t (.v (.int .i64 0)),.t (.v (.int .i64 0)),.t (.v (.int .i64 0)),.t (.v (.int .i64 0)),.t (.v (.bool false)),.nl,.t (.v (.int .i64 0)),.t (.v (.int .i64 0)),.t (.v (.int .i64 0)),.t (.v (.int .i64 0))]:=⟨_,_,_,inf75,rfl,rfl⟩
instance:Zr Tryz.prog 83 [.t (.v (.int .i64 0)),.t (.v (.int .i64 0)),.t (.v (.int .i64 0)),.t (.v (.int .u64 0)),.t (.v (.int .u64 0)),.t (.v (.int .u64 0)),.t (.v (.bool false))]:=⟨_,_,_,HV,rfl,rfl⟩
instance:Zr Tryz.prog 97 [.t (.v (.int .i64 0)),.nl,.nl,.nl]:=⟨_,_,_,inf97,rfl,rfl⟩
instance:Zr Tryz.prog 101 [.t (.v (.int .i64 0)),.t (.v (.int .i64 0)),.t (.v (.bool false)),.t (.v (.bool false)),.nl]:=⟨_,_,_,inf101,rfl,rfl⟩
instance:Zr Tryz.prog 114 [.t (.v (.int .i64 0)),.t (.v (.int .i64 0)),.t (.v (.int .i64 0)),.t (.v (.int .i64 0)),.t (.v (.int .i64 0)),.t (.v (.int .i64 0)),.t (.v (.int .i64 0)),.t (.v (.int .i64 0)),.t (.v (.int .i64 0)),.t (.v (.int .i64 0)),.nl,.t (.v (.pointer none)),.nl,.nl,.nl,.nl,.nl,.nl,.t (.v (.int .i64 0))]:=⟨_,_,_,AfC,rfl,rfl⟩
instance:Zr Tryz.prog 125 [.t (.v (.int .i64 0)),.nl,.nl]:=⟨_,_,_,inf125,rfl,rfl⟩
instance:Zr Tryz.prog 135 [.nl,.nl,.nl,.t (.v (.bool false))]:=⟨_,_,_,AfD,rfl,rfl⟩
instance:Zr Tryz.prog 141 [.t (.v (.int .i64 0)),.t (.v (.int .i64 0)),.t (.v (.int .i64 0))]:=⟨_,_,_,inf141,rfl,rfl⟩
instance:Zr Tryz.prog 145 [.t (.v (.bool false)),.t (.v (.bool false)),.t (.v (.bool false)),.t (.v (.int .i64 0)),.nl,.t (.v (.int .i64 0)),.t (.v (.int .i64 0))]:=⟨_,_,_,inf145,rfl,rfl⟩
instance:Zr Tryz.prog 152 [.t (.v (.int .i64 0)),.t (.v (.bool false)),.nl]:=⟨_,_,_,inf152,rfl,rfl⟩
instance:Zr Tryz.prog 167 [.t (.v (.bool false)),.t (.v (.int .i64 0)),.t (.v (.int .i64 0)),.nl]:=⟨_,_,_,inf167,rfl,rfl⟩
instance:Zr Tryz.prog 187 [.t (.v (.int .i64 0)),.t (.v (.int .i64 0)),.t (.v (.int .i64 0)),.t (.v (.int .i64 0)),.t (.v (.int .i64 0)),.t (.v (.bool false)),.nl,.t (.v (.bool false)),.t (.v (.int .i64 0)),.t (.v (.int .i64 0)),.t (.v (.int .i64 0)),.t (.v (.int .i64 0)),.t (.v (.int .i64 0)),.t (.v (.bool false)),.t (.v (.int .i64 0)),.t (.v (.int .i64 0)),.nl,.nl,.t (.v (.int .u64 0)),.nl,.nl,.nl,.t (.v (.int .i64 0)),.t (.v (.int .i64 0)),.nl,.nl,.t (.v (.int .i64 0)),.t (.v (.int .i64 0)),.t (.v (.int .i64 0)),.t (.v (.int .i64 0)),.t (.v (.int .i64 0)),.t (.v (.bool false)),.t (.v (.bool false)),.t (.v (.bool false)),.t (.v (.int .i64 0)),.t (.v (.int .i64 0)),.t (.v (.int .i64 0)),.t (.v (.int .i64 0)),.t (.v (.int .i64 0)),.t (.v (.int .i64 0)),.t (.v (.int .i64 0)),.t (.v (.int .i64 0)),.t (.v (.int .i64 0)),.t (.v (.int .i64 0)),.nl,.t (.v (.pointer none)),.t (.v (.int .i64 0)),.t (.v (.int .i64 0)),.t (.v (.bool false)),.nl]:=⟨_,_,_,AfE,rfl,rfl⟩
instance:Zr Tryz.prog 202 [.t (.v (.int .i64 0)),.t (.v (.int .i64 0)),.t (.v (.bool false)),.t (.v (.bool false)),.nl,.nl,.t (.v (.int .i64 0)),.t (.v (.int .i64 0)),.t (.v (.int .i64 0)),.t (.v (.int .i64 0)),.nl]:=⟨_,_,_,AfF,rfl,rfl⟩
instance:Zr Tryz.prog 233 [.t (.v (.int .i64 0)),.t (.v (.int .i64 0))]:=⟨_,_,_,inf233,rfl,rfl⟩
instance:Zr Tryz.prog 236 [.t (.v (.int .i64 0)),.t (.v (.int .i64 0)),.t (.v (.int .i64 0))]:=⟨_,_,_,inf236,rfl,rfl⟩
instance:Zr Tryz.prog 239 [.t (.v (.int .i64 0)),.t (.v (.int .i64 0)),.t (.v (.int .i64 0)),.t (.v (.int .i64 0)),.t (.v (.int .i64 0))]:=⟨_,_,_,inf239,rfl,rfl⟩
instance:Zr Tryz.prog 288 [.nl]:=⟨_,_,_,AfG,rfl,rfl⟩
instance:Zr Tryz.prog 295 [.t (.v (.int .i64 0)),.nl,.nl,.nl,.t (.v (.int .i64 0)),.t (.v (.int .i64 0)),.t (.v (.int .i64 0)),.t (.v (.int .i64 0)),.t (.v (.int .i64 0)),.t (.v (.int .i64 0)),.t (.v (.int .i64 0)),.t (.v (.int .i64 0)),.t (.v (.int .i64 0)),.t (.v (.int .i64 0)),.nl,.t (.v (.int .i64 0)),.t (.v (.int .i64 0))]:=⟨_,_,_,AfH,rfl,rfl⟩
instance:Bp Tryz.prog 24 [(0,1),(1,1),(2,1),(3,1),(4,1),(5,1),(6,1),(7,1),(8,1),(9,1),(10,1)]:=⟨_,i4_,by kernel_rfl⟩
instance:Bp Tryz.prog 32 [(0,1),(1,1),(2,1),(3,1),(4,1)]:=⟨_,ud32,by kernel_rfl⟩
instance:Bp Tryz.prog 34 [(0,1),(1,1),(2,5),(7,1),(8,1)]:=⟨_,BbR,by kernel_rfl⟩
instance:Bp Tryz.prog 45 [(0,1),(1,1)]:=⟨_,ud45,by kernel_rfl⟩
instance:Bp Tryz.prog 51 [(0,2),(2,1),(3,1),(4,1)]:=⟨_,ud51,by kernel_rfl⟩
instance:Bp Tryz.prog 53 [(0,1),(1,1),(2,1),(3,1)]:=⟨_,ud53,by kernel_rfl⟩
instance:Bp Tryz.prog 55 [(0,1),(1,1),(2,5),(7,1),(8,1),(9,1),(10,1),(11,1),(12,1),(13,1),(14,2),(16,1),(17,1),(18,1),(19,1),(20,1),(21,1),(22,5),(27,4),(31,1),(32,1),(33,1)]:=⟨_,ud55,by kernel_rfl⟩
instance:Bp Tryz.prog 63 [(0,1),(1,1),(2,1)]:=⟨_,BbS,by kernel_rfl⟩
instance:Bp Tryz.prog 65 [(0,1),(1,1),(2,1),(3,5)]:=⟨_,BbT,by kernel_rfl⟩
instance:Bp Tryz.prog 75 [(0,1),(1,1),(2,1),(3,1),(4,5),(9,4)]:=⟨_,BbU,by kernel_rfl⟩
instance:Bp Tryz.prog 83 [(0,1),(1,1),(2,1),(3,1),(4,1),(5,1),(6,1)]:=⟨_,AjG,by kernel_rfl⟩
instance:Bp Tryz.prog 97 [(0,1),(1,1),(2,1),(3,1)]:=⟨_,ud97,by kernel_rfl⟩
instance:Bp Tryz.prog 101 [(0,1),(1,1),(2,1),(3,1),(4,1)]:=⟨_,ud101,by kernel_rfl⟩
instance:Bp Tryz.prog 114 [(0,11),(11,1),(12,1),(13,1),(14,1),(15,1),(16,1),(17,1),(18,1)]:=⟨_,AqJ,by kernel_rfl⟩
instance:Bp Tryz.prog 125 [(0,1),(1,1),(2,1)]:=⟨_,ud125,by kernel_rfl⟩
instance:Bp Tryz.prog 135 [(0,1),(1,1),(2,1),(3,1)]:=⟨_,AqK,by kernel_rfl⟩
instance:Bp Tryz.prog 141 [(0,1),(1,1),(2,1)]:=⟨_,AqL,by kernel_rfl⟩
instance:Bp Tryz.prog 145 [(0,1),(1,1),(2,1),(3,1),(4,1),(5,1),(6,1)]:=⟨_,ud145,by kernel_rfl⟩
instance:Bp Tryz.prog 152 [(0,1),(1,1),(2,1)]:=⟨_,ud152,by kernel_rfl⟩
instance:Bp Tryz.prog 167 [(0,1),(1,1),(2,1),(3,1)]:=⟨_,AjE,by kernel_rfl⟩
instance:Bp Tryz.prog 187 [(0,34),(34,11),(45,1),(46,1),(47,3)]:=⟨_,AqM,by kernel_rfl⟩
instance:Bp Tryz.prog 202 [(0,5),(5,1),(6,4),(10,1)]:=⟨_,AqN,by kernel_rfl⟩
instance:Bp Tryz.prog 233 [(0,1),(1,1)]:=⟨_,i3_,by kernel_rfl⟩
instance:Bp Tryz.prog 236 [(0,2),(2,1)]:=⟨_,AqO,by kernel_rfl⟩
instance:Bp Tryz.prog 239 [(0,1),(1,4)]:=⟨_,AjF,by kernel_rfl⟩
instance:Bp Tryz.prog 288 [(0,1)]:=⟨_,AqP,by kernel_rfl⟩
instance:Bp Tryz.prog 295 [(0,4),(4,11),(15,1),(16,1)]:=⟨_,AqQ,by kernel_rfl⟩
end
section
open Go.ChangeShapes Go.WideShapes
structure KQ where
 thread:Int
 kind:Int
 addr:Int
 want:Int
 old:Int
 now:Int
 ok:Bool
 deriving DecidableEq,Inhabited
def tAc (x:KQ):List Tr:=tI x.thread++tI x.kind++tI x.addr++tU x.want++tU x.old++tU x.now++tB x.ok
structure DB where
 kind:Int
 thread:Int
 req:AU
 inn:Int
 outs:List Int
 deriving DecidableEq,Inhabited
def tEv (x:DB):List Tr:=tI x.kind++tI x.thread++tRq x.req++tI x.inn++tL tI x.outs
def sEv (x:DB):Prop:=sI x.kind∧sI x.thread∧sRq x.req∧sI x.inn∧(sL sI 8) x.outs
def bEv (x:DB):Nat:=b1 x.kind+b1 x.thread+bRq x.req+b1 x.inn+(bL b1) x.outs
theorem BeV {H:Type} {enc:TypeId × Value→H} {W:World}:BP enc Tryz.prog W 34 tEv sEv bEv:=by
 refine BP.map (BP.struct (n:=9) Tryz.underlying34 bG (fun _=>rfl) (BJ.cons (s:=1) rfl rfl bG (fun _=>rfl) EA (BJ.cons (s:=1) rfl rfl bG (fun _=>rfl) EA (BJ.cons (s:=5) rfl rfl bG (fun _=>rfl) BeW (BJ.cons (s:=1) rfl rfl bG (fun _=>rfl) EA (BJ.cons (s:=1) rfl rfl bG (fun _=>rfl) AhA BJ.nil)))))) (fun (p:Int × Int × AU × Int × List Int × Unit)=>⟨p.1,p.2.1,p.2.2.1,p.2.2.2.1,p.2.2.2.2.1⟩) (fun p=>?_) (fun p h=>?_) (fun p=>?_)
 ·simp [tEv,iC,tI,tL,tRq]
 ·obtain ⟨h0,h1,h2,h3,h4,_⟩:=h;exact ⟨h0,h1,h2,h3,h4⟩
 ·exact Nat.le_of_eq (by simp only [bEv,lZ,iT])
theorem AgZ {H:Type} {enc:TypeId × Value→H} {W:World}:BP enc Tryz.prog W 25 (tL tEv) (sL sEv 104) (bL bEv):=BP.slice (s:=9) Tryz.underlying25 bG bG (fun _=>rfl) BeV
structure AC where
 pc:Int
 seq:Int
 req:AU
 slow:Bool
 round:Int
 i:Int
 j:Int
 tri:Int
 epoch:Int
 all_:Bool
 base:HA
 buf:List Int
 nxt:List Int
 word:Int
 args:List Int
 found:List DOp
 seen:List Int
 pool:BV
 res:Rst
 won:Bool
 waits:Bool
 scans:Bool
 deriving DecidableEq,Inhabited
end
def ixF {α:Type} (p:α→Bool):List α→Int
 | [] => -1
 |a::l=>if p a then 0 else if ixF p l<0 then -1 else ixF p l+1
theorem c7_ {α:Type} (p:α→Bool) : ∀l:List α, -1≤ixF p l∧ixF p l<l.length
  | []=>by simp [ixF]
  | a :: l => by have:=c7_ p l;unfold ixF;simp only [gF];repeat' split
                 all_goals omega
theorem JU {α:Type} (p:α→Bool) : ∀(l:List α) (j:Nat) (a:α),(∀q,q<j → ∀b,l[q]? = some b→p b=false)→l[j]? = some a→p a=true→ixF p l=j
 | [],j,a,_,h,_=>by simp at h
 |b::l,0,a,_,h,hp=>by simp at h;subst h;simp [ixF,hp]
 |b::l,j+1,a,h0,h,hp=>by
  have h1:=JU p l j a (fun q hq c hc=>h0 (q+1) (by omega) c (by simpa using hc)) fH hp
  have h2:=h0 0 (by omega) b rfl
  unfold ixF
  rw [h2,h1];simp;omega
theorem FI {α:Type} (p:α→Bool) : ∀l:List α,(∀q:Nat,∀b,l[q]? = some b→p b=false)→ixF p l = -1
 | [],_=>rfl
 |b::l,h0=>by
  have h1:=FI p l (fun q c hc=>h0 (q+1) c (by simpa using hc))
  have h2:=h0 0 b rfl
  unfold ixF
  rw [h2,h1];simp
theorem QV {α:Type} (p:α→Bool) : ∀l:List α,0≤ixF p l → ∃a,l[(ixF p l).toNat]? = some a∧p a=true
 | [],h=>by simp [ixF] at h
 | b::l,h=>by
  unfold ixF at h ⊢
  cases hp:p b
  ·simp only [hp,iM,jL] at h ⊢
   by_cases h2:ixF p l<0
   ·rw [fR h2] at h;omega
   ·rw [fT h2] at h ⊢
    obtain ⟨a,ha,hq⟩:=QV p l (by omega)
    refine ⟨a,?_,hq⟩
    rw [show (ixF p l+1).toNat=(ixF p l).toNat+1 by omega];simpa using ha
  ·exact ⟨b,by simp,hp⟩
theorem AlU {α:Type} (p:α→Bool) {l:List α} {q:Nat} {a:α} (h:l[q]? = some a) (hp:p a=true):0≤ixF p l:=by
 by_cases h0:0≤ixF p l
 ·exact h0
 ·exfalso
  have hb:=(c7_ p l).1
  suffices h : ∀(l:List α) (q:Nat),l[q]? = some a→ixF p l ≠ -1 by exact h l q ‹_› (by omega)
  intro l
  induction l with
  |nil=>intro q h;simp at h
  | cons b l ih =>
   intro q h
   unfold ixF
   cases q with
   |zero=>simp at h;subst h;simp [hp]
   |succ q =>
    have h1:=ih q fH
    have h2:=(c7_ p l).1
    repeat' split
    all_goals omega
def IA (l:List AH) (t:Int):Bool:=decide (0≤t∧t<l.length∧(l.getD t.toNat default).on=false)
def putW (l:List AH) (t:Int) (w:AH):List AH:=if IA l t then l.set t.toNat ⟨true,w.ticket,w.seq,w.cases⟩ else l
def JJ (l:List AH) (t:Int):Bool:=decide (0≤t∧t<l.length∧(l.getD t.toNat default).on=true)
def w0:AH:=⟨false,0,0,[]⟩
def cutW (l:List AH) (t:Int):List AH:=if JJ l t then l.set t.toNat w0 else l
theorem DR (l:List AH) (t:Int) (w:AH):(putW l t w).length=l.length:=by unfold putW;split<;>simp
theorem CQ (l:List AH) (t:Int):(cutW l t).length=l.length:=by unfold cutW;split<;>simp
structure FS where
 th:Int
 wh:Int
 ok:Bool
def isC (d h:Int) (c:BF):Bool:=decide (c.dir=d∧c.handle=h)
def IP (l:List AH) (d h:Int):Nat→FS
 |0=>⟨0,0,false⟩
 |k+1=>if (l.getD k default).on=true∧0≤ixF (isC d h) (l.getD k default).cases∧((IP l d h k).ok=false∨(l.getD k default).ticket<(l.getD (IP l d h k).th.toNat default).ticket) then ⟨k,ixF (isC d h) (l.getD k default).cases,true⟩ else IP l d h k
theorem r3_ (l:List AH) (d h:Int) (k:Nat):((IP l d h k).ok=false∧(IP l d h k).th=0∧(IP l d h k).wh=0)∨((IP l d h k).ok=true ∧ ∃t:Nat,(IP l d h k).th=t∧t<k∧(l.getD t default).on=true∧(IP l d h k).wh=ixF (isC d h) (l.getD t default).cases∧0≤(IP l d h k).wh):=by
 induction k with
 |zero=>exact .inl ⟨rfl,rfl,rfl⟩
 | succ k ih =>
  unfold IP
  split
  ·rename_i hc;exact .inr ⟨rfl,k,rfl,by omega,hc.1,rfl,hc.2.1⟩
  ·rcases ih with ih|⟨h0,t,h1,h2,h3,h4,h5⟩
   ·exact .inl ih
   ·exact .inr ⟨h0,t,h1,by omega,h3,h4,h5⟩
section
attribute [local irreducible] AL AW RG Fin C Cd Cio AI AF AO
theorem QU {α:Type} (p:α→Bool) (l:List α):decide (0≤ixF p l)=l.any p:=by
 cases h:l.any p
 ·refine fZ fun h2=>?_
  obtain ⟨a,ha,hp⟩:=QV p l h2
  rw [List.any_eq_false] at h
  exact h a (fO ha) hp
 ·obtain ⟨a,ha,hp⟩:=lN.1 h
  obtain ⟨q,hq⟩:=jN ha
  exact fW (AlU p hq hp)
theorem AlN (f:FuncId) (fi cap:List AV) (p:Int→Bool) (l:List Int) (hg : ∀c∈l,CV Tryz.prog (.fn (.func f) fi cap) [i64 c] (.t (.v (.bool (p c)))) []) (hup:upB (CM 0) (.fn (.func f) fi cap) = .fn (.func f) fi cap)
  (hl:l.length≤1152921504606846976):Cd Tryz.prog 255 [.ln (l.map tI),.fn (.func f) fi cap] (i64 (ixF p l)) []:=by
 have h1:(l.map tI).length=l.length:=fN _
 refine ZEN Tryz.func255 Tryz.ntmps255 ?_
 repeat' (first|refine A0 ?_|fail)
 refine AW.loopP (fun (q:Nat)=>q≤l.length ∧ ∀j,j<q → ∀b,l[j]? = some b→p b=false) (fun (q:Nat)=>(pu (pu (pu (pu (fun _=>.any) 0 (.ln (l.map tI))) 1 (.fn (.func f) fi cap)) 7 (i64 (l.map tI).length)) 8 (i64 q))) (fun (q:Nat)=>[]) (fun (q:Nat)=>l.length-q) (0) ?_ ?_ ?_
 ·exact ⟨fX _,fun j hj=>by omega⟩
 ·exact Wk.cq 0
 ·rintro q ⟨h2,h3⟩
  by_cases hq:q<l.length
  ·obtain ⟨a,ha⟩ : ∃a,l[q]? = some a:=⟨_,ZgE hq⟩
   have c1:=hg a (fO ha)
   cases hp:p a
   ·rw [hp] at c1
    repeat' (first|refine Am ?_|fail)
    all_goals try exact ZE5
    refine ⟨q+1,⟨by omega,fun j hj b hb=>?_⟩,by omega,?_⟩
    ·by_cases e:j=q
     ·subst e;rw [ha] at hb;cases hb;exact hp
     ·exact h3 j (by omega) b hb
    ·exact Wk.cq 0
   ·rw [hp] at c1
    rw [JU p l q a h3 ha hp]
    repeat' (first|refine Am ?_|fail)
    all_goals exact A2 Tryz.results255
  ·rw [FI p l fun j b hb=>h3 j eM b hb]
   repeat' (first|refine A0 ?_|fail)
   all_goals exact A2 Tryz.results255
theorem q8_ (f:FuncId) (fi cap:List AV) (p:Int→Bool) (l:List Int) (hg : ∀c∈l,CV Tryz.prog (.fn (.func f) fi cap) [i64 c] (.t (.v (.bool (p c)))) []) (hup:upB (CM 0) (.fn (.func f) fi cap) = .fn (.func f) fi cap) (hps : ∀heap sel,BH heap sel (.fn (.func f) fi cap) (.fn (.func f) fi cap))
  (hl:l.length≤1152921504606846976):Cd Tryz.prog 232 [.ln (l.map tI),.fn (.func f) fi cap] (bo (l.any p)) []:=by
 have c1:=AlN f fi cap p l hg hup hl
 rw [←QU]
 refine ZEN Tryz.func232 Tryz.ntmps232 ?_
 by_cases h:0≤ixF p l
 ·rw [fW h]
  repeat' (first|refine A7 ?_|fail)
  all_goals exact A2 Tryz.results232
 ·rw [fZ h]
  repeat' (first|refine A7 ?_|fail)
  all_goals exact A2 Tryz.results232
theorem AlO (f:FuncId) (fi cap:List AV) (p:Rst→Bool) (l:List Rst) (hg : ∀c∈l,CV Tryz.prog (.fn (.func f) fi cap) [.agg ((tR c).map .t)] (.t (.v (.bool (p c)))) []) (hup:upB (CM 0) (.fn (.func f) fi cap) = .fn (.func f) fi cap)
  (hl:l.length≤1152921504606846976):Cd Tryz.prog 265 [.ln (l.map tR),.fn (.func f) fi cap] (i64 (ixF p l)) []:=by
 have h1:(l.map tR).length=l.length:=fN _
 refine ZEN Tryz.func265 Tryz.ntmps265 ?_
 repeat' (first|refine A0 ?_|fail)
 refine AW.loopP (fun (q:Nat)=>q≤l.length ∧ ∀j,j<q → ∀b,l[j]? = some b→p b=false) (fun (q:Nat)=>(pu (pu (pu (pu (fun _=>.any) 0 (.ln (l.map tR))) 1 (.fn (.func f) fi cap)) 7 (i64 (l.map tR).length)) 8 (i64 q))) (fun (q:Nat)=>[]) (fun (q:Nat)=>l.length-q) (0) ?_ ?_ ?_
 ·exact ⟨fX _,fun j hj=>by omega⟩
 ·exact Wk.cq 0
 ·rintro q ⟨h2,h3⟩
  by_cases hq:q<l.length
  ·obtain ⟨a,ha⟩ : ∃a,l[q]? = some a:=⟨_,ZgE hq⟩
   have c1:=hg a (fO ha)
   cases hp:p a
   ·rw [hp] at c1
    repeat' (first|refine Am ?_|fail)
    all_goals try exact ZE5
    refine ⟨q+1,⟨by omega,fun j hj b hb=>?_⟩,by omega,?_⟩
    ·by_cases e:j=q
     ·subst e;rw [ha] at hb;cases hb;exact hp
     ·exact h3 j (by omega) b hb
    ·exact Wk.cq 0
   ·rw [hp] at c1
    rw [JU p l q a h3 ha hp]
    repeat' (first|refine Am ?_|fail)
    all_goals exact A2 Tryz.results265
  ·rw [FI p l fun j b hb=>h3 j eM b hb]
   repeat' (first|refine A0 ?_|fail)
   all_goals exact A2 Tryz.results265
theorem AkQ (f:FuncId) (fi cap:List AV) (p:Rst→Bool) (l:List Rst) (hg : ∀c∈l,CV Tryz.prog (.fn (.func f) fi cap) [.agg ((tR c).map .t)] (.t (.v (.bool (p c)))) []) (hup:upB (CM 0) (.fn (.func f) fi cap) = .fn (.func f) fi cap) (hps : ∀heap sel,BH heap sel (.fn (.func f) fi cap) (.fn (.func f) fi cap))
  (hl:l.length≤1152921504606846976):Cd Tryz.prog 256 [.ln (l.map tR),.fn (.func f) fi cap] (bo (l.any p)) []:=by
 have c1:=AlO f fi cap p l hg hup hl
 rw [←QU]
 refine ZEN Tryz.func256 Tryz.ntmps256 ?_
 by_cases h:0≤ixF p l
 ·rw [fW h]
  repeat' (first|refine A7 ?_|fail)
  all_goals exact A2 Tryz.results256
 ·rw [fZ h]
  repeat' (first|refine A7 ?_|fail)
  all_goals exact A2 Tryz.results256
theorem AlM (f:FuncId) (fi cap:List AV) (p:AY→Bool) (l:List AY) (hg : ∀c∈l,CV Tryz.prog (.fn (.func f) fi cap) [.agg ((tCh c).map .t)] (.t (.v (.bool (p c)))) []) (hup:upB (CM 0) (.fn (.func f) fi cap) = .fn (.func f) fi cap)
  (hl:l.length≤1152921504606846976):Cd Tryz.prog 258 [.ln (l.map tCh),.fn (.func f) fi cap] (i64 (ixF p l)) []:=by
 have h1:(l.map tCh).length=l.length:=fN _
 refine ZEN Tryz.func258 Tryz.ntmps258 ?_
 repeat' (first|refine A0 ?_|fail)
 refine AW.loopP (fun (q:Nat)=>q≤l.length ∧ ∀j,j<q → ∀b,l[j]? = some b→p b=false) (fun (q:Nat)=>(pu (pu (pu (pu (fun _=>.any) 0 (.ln (l.map tCh))) 1 (.fn (.func f) fi cap)) 7 (i64 (l.map tCh).length)) 8 (i64 q))) (fun (q:Nat)=>[]) (fun (q:Nat)=>l.length-q) (0) ?_ ?_ ?_
 ·exact ⟨fX _,fun j hj=>by omega⟩
 ·exact Wk.cq 0
 ·rintro q ⟨h2,h3⟩
  by_cases hq:q<l.length
  ·obtain ⟨a,ha⟩ : ∃a,l[q]? = some a:=⟨_,ZgE hq⟩
   have c1:=hg a (fO ha)
   cases hp:p a
   ·rw [hp] at c1
    repeat' (first|refine Am ?_|fail)
    all_goals try exact ZE5
    refine ⟨q+1,⟨by omega,fun j hj b hb=>?_⟩,by omega,?_⟩
    ·by_cases e:j=q
     ·subst e;rw [ha] at hb;cases hb;exact hp
     ·exact h3 j (by omega) b hb
    ·exact Wk.cq 0
   ·rw [hp] at c1
    rw [JU p l q a h3 ha hp]
    repeat' (first|refine Am ?_|fail)
    all_goals exact A2 Tryz.results258
  ·rw [FI p l fun j b hb=>h3 j eM b hb]
   repeat' (first|refine A0 ?_|fail)
   all_goals exact A2 Tryz.results258
theorem AkP (f:FuncId) (fi cap:List AV) (p:AY→Bool) (l:List AY) (hg : ∀c∈l,CV Tryz.prog (.fn (.func f) fi cap) [.agg ((tCh c).map .t)] (.t (.v (.bool (p c)))) []) (hup:upB (CM 0) (.fn (.func f) fi cap) = .fn (.func f) fi cap) (hps : ∀heap sel,BH heap sel (.fn (.func f) fi cap) (.fn (.func f) fi cap))
  (hl:l.length≤1152921504606846976):Cd Tryz.prog 237 [.ln (l.map tCh),.fn (.func f) fi cap] (bo (l.any p)) []:=by
 have c1:=AlM f fi cap p l hg hup hl
 rw [←QU]
 refine ZEN Tryz.func237 Tryz.ntmps237 ?_
 by_cases h:0≤ixF p l
 ·rw [fW h]
  repeat' (first|refine A7 ?_|fail)
  all_goals exact A2 Tryz.results237
 ·rw [fZ h]
  repeat' (first|refine A7 ?_|fail)
  all_goals exact A2 Tryz.results237
theorem AlP (f:FuncId) (fi cap:List AV) (p:AH→Bool) (l:List AH) (hg : ∀c∈l,CV Tryz.prog (.fn (.func f) fi cap) [.agg ((tWt c).map .t)] (.t (.v (.bool (p c)))) []) (hup:upB (CM 0) (.fn (.func f) fi cap) = .fn (.func f) fi cap)
  (hl:l.length≤1152921504606846976):Cd Tryz.prog 259 [.ln (l.map tWt),.fn (.func f) fi cap] (i64 (ixF p l)) []:=by
 have h1:(l.map tWt).length=l.length:=fN _
 refine ZEN Tryz.func259 Tryz.ntmps259 ?_
 repeat' (first|refine A0 ?_|fail)
 refine AW.loopP (fun (q:Nat)=>q≤l.length ∧ ∀j,j<q → ∀b,l[j]? = some b→p b=false) (fun (q:Nat)=>(pu (pu (pu (pu (fun _=>.any) 0 (.ln (l.map tWt))) 1 (.fn (.func f) fi cap)) 7 (i64 (l.map tWt).length)) 8 (i64 q))) (fun (q:Nat)=>[]) (fun (q:Nat)=>l.length-q) (0) ?_ ?_ ?_
 ·exact ⟨fX _,fun j hj=>by omega⟩
 ·exact Wk.cq 0
 ·rintro q ⟨h2,h3⟩
  by_cases hq:q<l.length
  ·obtain ⟨a,ha⟩ : ∃a,l[q]? = some a:=⟨_,ZgE hq⟩
   have c1:=hg a (fO ha)
   cases hp:p a
   ·rw [hp] at c1
    repeat' (first|refine Am ?_|fail)
    all_goals try exact ZE5
    refine ⟨q+1,⟨by omega,fun j hj b hb=>?_⟩,by omega,?_⟩
    ·by_cases e:j=q
     ·subst e;rw [ha] at hb;cases hb;exact hp
     ·exact h3 j (by omega) b hb
    ·exact Wk.cq 0
   ·rw [hp] at c1
    rw [JU p l q a h3 ha hp]
    repeat' (first|refine Am ?_|fail)
    all_goals exact A2 Tryz.results259
  ·rw [FI p l fun j b hb=>h3 j eM b hb]
   repeat' (first|refine A0 ?_|fail)
   all_goals exact A2 Tryz.results259
theorem AkR (f:FuncId) (fi cap:List AV) (p:AH→Bool) (l:List AH) (hg : ∀c∈l,CV Tryz.prog (.fn (.func f) fi cap) [.agg ((tWt c).map .t)] (.t (.v (.bool (p c)))) []) (hup:upB (CM 0) (.fn (.func f) fi cap) = .fn (.func f) fi cap) (hps : ∀heap sel,BH heap sel (.fn (.func f) fi cap) (.fn (.func f) fi cap))
  (hl:l.length≤1152921504606846976):Cd Tryz.prog 240 [.ln (l.map tWt),.fn (.func f) fi cap] (bo (l.any p)) []:=by
 have c1:=AlP f fi cap p l hg hup hl
 rw [←QU]
 refine ZEN Tryz.func240 Tryz.ntmps240 ?_
 by_cases h:0≤ixF p l
 ·rw [fW h]
  repeat' (first|refine A7 ?_|fail)
  all_goals exact A2 Tryz.results240
 ·rw [fZ h]
  repeat' (first|refine A7 ?_|fail)
  all_goals exact A2 Tryz.results240
end
abbrev u64 (x:Int):AV:=.t (.v (.int .u64 x))
abbrev aCf (c:AB):AV:=.agg [i64 c.kind,i64 c.threads,i64 c.chans,i64 c.cap,i64 c.nodes,i64 c.retire,i64 c.patience,i64 c.tags,i64 c.seqs,i64 c.gens,.ln (c.start.map tI)]
abbrev aCh (x:AY):AV:=.agg [i64 x.gen,i64 x.cap,bo x.used,bo x.closed,.ln (x.buf.map tI)]
abbrev aWt (w:AH):AV:=.agg [bo w.on,i64 w.ticket,i64 w.seq,.ln (w.cases.map tCs)]
abbrev aHl (h:AM):AV:=.agg [i64 h.ticket,.ln (h.chans.map tCh),.ln (h.waits.map tWt),.ln (h.done.map tR)]
abbrev aCl (x:CO):AV:=.agg [i64 x.cap,.ln (x.list.map tI),.ln (x.done.map tR)]
abbrev aRq (q:AU):AV:=.agg [i64 q.kind,i64 q.arg,i64 q.value,bo q.dflt,.ln (q.cases.map tCs)]
abbrev aR (r:Rst):AV:=.agg [i64 r.seq,i64 r.cas,i64 r.code,i64 r.value]
abbrev fCf (c:AB):AV:=.agg [i64 c.kind,i64 c.threads,i64 c.chans,i64 c.cap,i64 c.nodes,i64 c.retire,i64 c.patience,i64 c.tags,i64 c.seqs,i64 c.gens,.t (.lst (c.start.map tI))]
section
attribute [local irreducible] AL AW RG Fin C Cd Cio AI AF AO
end
theorem or_sum (s:Nat) {a b M:Int} (hM:(2:Int)^s=M) (ha:0≤a) (hb:0≤b) (hs:b<M) (hm:a%M=0) (hA:a<18446744073709551616) (hB:b<18446744073709551616):bits .or .u64 a b=a+b:=by
 subst hM
 rw [u64_or a b ha hA hb hB,nat_join s]
 ·omega
 ·have:((a.toNat:Int))%((2^s:Nat):Int)=0:=by rw [mT ha];simpa using hm
  exact_mod_cast this
 ·have:(b.toNat:Int)<((2^s:Nat):Int):=by rw [mT hb];simpa using hs
  exact_mod_cast this
theorem or_sum' (s:Nat) {a b M:Int} (hM:(2:Int)^s=M) (ha:0≤a) (hb:0≤b) (hs:a<M) (hm:b%M=0) (hA:a<18446744073709551616) (hB:b<18446744073709551616):bits .or .u64 a b=a+b:=by
 have h:=or_sum s hM hb ha hs hm hB hA
 rw [u64_or b a hb hB ha hA,Nat.or_comm] at h
 rw [u64_or a b ha hA hb hB,h];omega
theorem and_lit (s:Nat) {x m M:Int} (hm:m+1=M) (hM:((2^s:Nat):Int)=M) (h0:0≤x) (h1:x<18446744073709551616) (h2:m<18446744073709551616):bits .and .u64 x m=x%M:=by
 subst hM
 obtain rfl:m=((2^s-1:Nat):Int):=by
  have:1≤2^s:=Nat.one_le_two_pow
  omega
 rw [u64_and x _ h0 h1 (by omega) h2,gE,Nat.and_two_pow_sub_one_eq_mod]
 rw [Int.natCast_emod,mT h0]
def okW (l:List AH):Prop:=l.length≤2932031007402 ∧ ∀w∈l,w.cases.length≤5864062014805
theorem okW.at {l:List AH} (h:okW l) {q:Nat} {a:AH} (ha:l[q]? = some a):a.cases.length≤5864062014805:=h.2 a (fO ha)
theorem BK {α:Type} {l:List α} {n:Nat} {a d:α} (h:l[n]? = some a):l.getD n d=a:=by rw [fQ,h];rfl
theorem RY (l:List BF) (h:l.length≤5864062014805):Cd Tryz.prog 112 [.ln (l.map tCs)] (.sl 0 0 l.length) [.row 0 141 3 (l.map tCs)]:=by
 refine ZEN Tryz.func112 Tryz.ntmps112 ?_
 repeat' (first|(refine ZAL ?_;first|(refine kL 969 rfl ?_;first|refine EF rfl rfl 30 _ _ rfl ud30 rfl (fun b hb=>?_))|refine uA ?_)|refine uC ?_|refine kcc rfl (fun hc=>?_) (fun hc=>?_)|fail)
 ·have hl:l=[]:=by simpa using hb hc
  subst hl
  refine Fin.wk (Wk.own 2 rfl 141 3 (.push rfl rfl)) ?_
  exact Ab Tryz.results112
 ·exact Ab Tryz.results112
theorem AdY (l:List AH) (h:l.length≤2932031007402):Cd Tryz.prog 294 [.ln (l.map tWt)] (.sl 0 0 l.length) [.row 0 167 4 (l.map tWt)]:=by
 refine ZEN Tryz.func294 Tryz.ntmps294 ?_
 repeat' (first|(refine ZAL ?_;first|(refine kL 3017 rfl ?_;first|refine EF rfl rfl 94 _ _ rfl ud94 rfl (fun b hb=>?_))|refine uA ?_)|refine uC ?_|refine kcc rfl (fun hc=>?_) (fun hc=>?_)|fail)
 ·have hl:l=[]:=by simpa using hb hc
  subst hl
  refine Fin.wk (Wk.own 2 rfl 167 4 (.push rfl rfl)) ?_
  exact Ab Tryz.results294
 ·exact Ab Tryz.results294
theorem AdV (l:List AY) (h:l.length≤2932031007402):Cd Tryz.prog 284 [.ln (l.map tCh)] (.sl 0 0 l.length) [.row 0 101 5 (l.map tCh)]:=by
 refine ZEN Tryz.func284 Tryz.ntmps284 ?_
 repeat' (first|(refine ZAL ?_;first|(refine kL 2985 rfl ?_;first|refine EF rfl rfl 93 _ _ rfl ud93 rfl (fun b hb=>?_))|refine uA ?_)|refine uC ?_|refine kcc rfl (fun hc=>?_) (fun hc=>?_)|fail)
 ·have hl:l=[]:=by simpa using hb hc
  subst hl
  refine Fin.wk (Wk.own 2 rfl 101 5 (.push rfl rfl)) ?_
  exact Ab Tryz.results284
 ·exact Ab Tryz.results284
section
attribute [local irreducible] AL AW RG Fin C Cd Cio AI AF AO
end
end Go.Proofs.YtccefppppedgkaaGreat
