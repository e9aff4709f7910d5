/- Joined: XTUI, XTTopD, XTWaitP, XTIdxF, XTAbb. -/
import Derived.Test.YtccefppppedgkaaGreatKGh
set_option linter.unusedVariables false
set_option linter.unusedSimpArgs false
set_option linter.unnecessarySimpa false
set_option maxRecDepth 100000
set_option maxHeartbeats 64000000
namespace Go.Proofs.YtccefppppedgkaaGreat
open Go.RowKit
section
@[reducible] def iu3:=Ud.mk ud3
@[reducible] def iu4:=Ud.mk ud4
@[reducible] def BaU:=Ud.mk ud22
@[reducible] def BaV:=Ud.mk AhB
@[reducible] def BaW:=Ud.mk BcK
@[reducible] def BaX:=Ud.mk BcL
@[reducible] def BaY:=Ud.mk ud30
@[reducible] def BaZ:=Ud.mk ud32
@[reducible] def BbA:=Ud.mk AzD
@[reducible] def BbB:=Ud.mk BcM
@[reducible] def BbC:=Ud.mk ud39
@[reducible] def BbD:=Ud.mk BcN
@[reducible] def BbE:=Ud.mk ud42
@[reducible] def BbF:=Ud.mk ud45
@[reducible] def BbG:=Ud.mk BcO
@[reducible] def BbH:=Ud.mk ud47
@[reducible] def BbI:=Ud.mk ud48
@[reducible] def BbJ:=Ud.mk ud49
@[reducible] def BbK:=Ud.mk ud51
@[reducible] def BbL:=Ud.mk ud53
@[reducible] def BbM:=Ud.mk ud55
@[reducible] def BbN:=Ud.mk AzE
@[reducible] def BbO:=Ud.mk AzF
@[reducible] def BbP:=Ud.mk ud70
@[reducible] def BbQ:=Ud.mk AzG
@[reducible] def BbR:=Ud.mk e6_
@[reducible] def BbS:=Ud.mk BcP
@[reducible] def BbT:=Ud.mk AhC
@[reducible] def BbU:=Ud.mk ud86
@[reducible] def BbV:=Ud.mk ud93
@[reducible] def BbW:=Ud.mk ud94
@[reducible] def BbX:=Ud.mk ud95
@[reducible] def BbY:=Ud.mk ud97
@[reducible] def AwK:=Ud.mk ud101
@[reducible] def AwL:=Ud.mk AyP
@[reducible] def AwM:=Ud.mk e4_
@[reducible] def AwN:=Ud.mk AnV
@[reducible] def AwO:=Ud.mk ud125
@[reducible] def AwP:=Ud.mk AyQ
@[reducible] def AwQ:=Ud.mk AnW
@[reducible] def AwR:=Ud.mk AnX
@[reducible] def AwS:=Ud.mk ud145
@[reducible] def AwT:=Ud.mk ud152
@[reducible] def AwU:=Ud.mk AyR
@[reducible] def AwV:=Ud.mk AgZ
@[reducible] def AwW:=Ud.mk AyS
@[reducible] def AwX:=Ud.mk AyT
@[reducible] def AwY:=Ud.mk AnY
@[reducible] def AwZ:=Ud.mk AyU
@[reducible] def AxA:=Ud.mk AyV
@[reducible] def AxB:=Ud.mk ud200
@[reducible] def AxC:=Ud.mk AnZ
@[reducible] def AxD:=Ud.mk e5_
@[reducible] def AxE:=Ud.mk AoA
@[reducible] def AxF:=Ud.mk AhA
@[reducible] def AxG:=Ud.mk AyW
@[reducible] def AxH:=Ud.mk AyX
@[reducible] def AxI:=Ud.mk AyY
@[reducible] def AxJ:=Ud.mk AyZ
@[reducible] def AxK:=Ud.mk AzA
@[reducible] def AxL:=Ud.mk AzB
@[reducible] def AxM:=Ud.mk AoB
@[reducible] def AxN:=Ud.mk AzC
@[reducible] def AxO:=Ud.mk AoC
attribute [instance] iu3 iu4 BaU BaV BaW BaX BaY BaZ BbA BbB BbC BbD BbE BbF BbG BbH BbI BbJ BbK BbL BbM BbN BbO BbP BbQ BbR BbS BbT BbU BbV BbW BbX BbY AwK AwL AwM AwN AwO AwP AwQ AwR AwS AwT AwU AwV AwW AwX AwY AwZ AxA AxB AxC AxD AxE AxF AxG AxH AxI AxJ AxK AxL AxM AxN AxO
@[reducible] def ii3:=In.mk inf3
@[reducible] def ii4:=In.mk AjL
@[reducible] def AzP:=In.mk ZJ
@[reducible] def AzQ:=In.mk ZL
@[reducible] def AzR:=In.mk AwE
@[reducible] def AzS:=In.mk AwF
@[reducible] def AzT:=In.mk inf30
@[reducible] def AzU:=In.mk inf32
@[reducible] def AzV:=In.mk AnJ
@[reducible] def AzW:=In.mk AwG
@[reducible] def AzX:=In.mk AwH
@[reducible] def AzY:=In.mk AwI
@[reducible] def AzZ:=In.mk inf42
@[reducible] def BaA:=In.mk inf45
@[reducible] def BaB:=In.mk inf46
@[reducible] def BaC:=In.mk AnK
@[reducible] def BaD:=In.mk n2_
@[reducible] def BaE:=In.mk n3_
@[reducible] def BaF:=In.mk inf51
@[reducible] def BaG:=In.mk inf53
@[reducible] def BaH:=In.mk inf55
@[reducible] def BaI:=In.mk inf63
@[reducible] def BaJ:=In.mk inf65
@[reducible] def BaK:=In.mk inf70
@[reducible] def BaL:=In.mk inf75
@[reducible] def BaM:=In.mk AnL
@[reducible] def BaN:=In.mk AwJ
@[reducible] def BaO:=In.mk IV
@[reducible] def BaP:=In.mk AnM
@[reducible] def BaQ:=In.mk AdJ
@[reducible] def BaR:=In.mk ZM
@[reducible] def BaS:=In.mk AdK
@[reducible] def BaT:=In.mk inf97
@[reducible] def AvA:=In.mk inf101
@[reducible] def AvB:=In.mk ApW
@[reducible] def AvC:=In.mk ApX
@[reducible] def AvD:=In.mk AdD
@[reducible] def AvE:=In.mk inf125
@[reducible] def AvF:=In.mk ApY
@[reducible] def AvG:=In.mk AdE
@[reducible] def AvH:=In.mk inf141
@[reducible] def AvI:=In.mk inf145
@[reducible] def AvJ:=In.mk inf152
@[reducible] def AvK:=In.mk inf167
@[reducible] def AvL:=In.mk ApZ
@[reducible] def AvM:=In.mk AqA
@[reducible] def AvN:=In.mk AdF
@[reducible] def AvO:=In.mk AqB
@[reducible] def AvP:=In.mk AqC
@[reducible] def AvQ:=In.mk AqD
@[reducible] def AvR:=In.mk AdG
@[reducible] def AvS:=In.mk inf233
@[reducible] def AvT:=In.mk inf236
@[reducible] def AvU:=In.mk inf239
@[reducible] def AvV:=In.mk AqE
@[reducible] def AvW:=In.mk AqF
@[reducible] def AvX:=In.mk AqG
@[reducible] def AvY:=In.mk AqH
@[reducible] def AvZ:=In.mk AqI
@[reducible] def AwA:=In.mk AqJ
@[reducible] def AwB:=In.mk AdH
@[reducible] def AwC:=In.mk AqK
@[reducible] def AwD:=In.mk AdI
attribute [instance] ii3 ii4 AzP AzQ AzR AzS AzT AzU AzV AzW AzX AzY AzZ BaA BaB BaC BaD BaE BaF BaG BaH BaI BaJ BaK BaL BaM BaN BaO BaP BaQ BaR BaS BaT AvA AvB AvC AvD AvE AvF AvG AvH AvI AvJ AvK AvL AvM AvN AvO AvP AvQ AvR AvS AvT AvU AvV AvW AvX AvY AvZ AwA AwB AwC AwD
instance:Zr Tryz.prog 3 [.t (.v (.int .i64 0))]:=⟨_,_,_,inf3,rfl,rfl⟩
instance:Zr Tryz.prog 24 [.t (.v (.int .i64 0)),.t (.v (.int .i64 0)),.t (.v (.int .i64 0)),.t (.v (.int .i64 0)),.t (.v (.int .i64 0)),.t (.v (.int .i64 0)),.t (.v (.int .i64 0)),.t (.v (.int .i64 0)),.t (.v (.int .i64 0)),.t (.v (.int .i64 0)),.nl]:=⟨_,_,_,ZL,rfl,rfl⟩
instance:Zr Tryz.prog 32 [.t (.v (.int .i64 0)),.t (.v (.int .i64 0)),.t (.v (.int .i64 0)),.t (.v (.bool false)),.nl]:=⟨_,_,_,inf32,rfl,rfl⟩
instance:Zr Tryz.prog 34 [.t (.v (.int .i64 0)),.t (.v (.int .i64 0)),.t (.v (.int .i64 0)),.t (.v (.int .i64 0)),.t (.v (.int .i64 0)),.t (.v (.bool false)),.nl,.t (.v (.int .i64 0)),.nl]:=⟨_,_,_,AnJ,rfl,rfl⟩
instance:Zr Tryz.prog 45 [.t (.v (.int .i64 0)),.t (.v (.int .i64 0))]:=⟨_,_,_,inf45,rfl,rfl⟩
instance:Zr Tryz.prog 46 [.t (.v (.int .u64 0))]:=⟨_,_,_,inf46,rfl,rfl⟩
instance:Zr Tryz.prog 51 [.t (.v (.int .i64 0)),.t (.v (.int .i64 0)),.nl,.nl,.t (.v (.int .i64 0))]:=⟨_,_,_,inf51,rfl,rfl⟩
instance:Zr Tryz.prog 53 [.t (.v (.int .i64 0)),.t (.v (.int .i64 0)),.t (.v (.int .i64 0)),.t (.v (.int .i64 0))]:=⟨_,_,_,inf53,rfl,rfl⟩
instance:Zr Tryz.prog 55 [.t (.v (.int .i64 0)),.t (.v (.int .i64 0)),.t (.v (.int .i64 0)),.t (.v (.int .i64 0)),.t (.v (.int .i64 0)),.t (.v (.bool false)),.nl,.t (.v (.bool false)),.t (.v (.int .i64 0)),.t (.v (.int .i64 0)),.t (.v (.int .i64 0)),.t (.v (.int .i64 0)),.t (.v (.int .i64 0)),.t (.v (.bool false)),.t (.v (.int .i64 0)),.t (.v (.int .i64 0)),.nl,.nl,.t (.v (.int .u64 0)),.nl,.nl,.nl,.t (.v (.int .i64 0)),.t (.v (.int .i64 0)),.nl,.nl,.t (.v (.int .i64 0)),.t (.v (.int .i64 0)),.t (.v (.int .i64 0)),.t (.v (.int .i64 0)),.t (.v (.int .i64 0)),.t (.v (.bool false)),.t (.v (.bool false)),.t (.v (.bool false))]:=⟨_,_,_,inf55,rfl,rfl⟩
instance:Zr Tryz.prog 63 [.t (.v (.int .i64 0)),.t (.v (.int .i64 0)),.nl]:=⟨_,_,_,inf63,rfl,rfl⟩
instance:Zr Tryz.prog 65 [.t (.v (.int .i64 0)),.t (.v (.int .i64 0)),.t (.v (.int .i64 0)),.t (.v (.int .i64 0)),.t (.v (.int .i64 0)),.t (.v (.int .i64 0)),.t (.v (.bool false)),.nl]:=⟨_,_,_,inf65,rfl,rfl⟩
instance:Zr Tryz.prog 75 [.t (.v (.int .i64 0)),.t (.v (.int .i64 0)),.t (.v (.int .i64 0)),.t (.v (.int .i64 0)),.t (.v (.int .i64 0)),.t (.v (.int .i64 0)),.t (.v (.int .i64 0)),.t (.v (.bool false)),.nl,.t (.v (.int .i64 0)),.t (.v (.int .i64 0)),.t (.v (.int .i64 0)),.t (.v (.int .i64 0))]:=⟨_,_,_,inf75,rfl,rfl⟩
instance:Zr Tryz.prog 83 [.t (.v (.int .i64 0)),.t (.v (.int .i64 0)),.t (.v (.int .i64 0)),.t (.v (.int .u64 0)),.t (.v (.int .u64 0)),.t (.v (.int .u64 0)),.t (.v (.bool false))]:=⟨_,_,_,IV,rfl,rfl⟩
instance:Zr Tryz.prog 97 [.t (.v (.int .i64 0)),.nl,.nl,.nl]:=⟨_,_,_,inf97,rfl,rfl⟩
instance:Zr Tryz.prog 101 [.t (.v (.int .i64 0)),.t (.v (.int .i64 0)),.t (.v (.bool false)),.t (.v (.bool false)),.nl]:=⟨_,_,_,inf101,rfl,rfl⟩
instance:Zr Tryz.prog 114 [.t (.v (.int .i64 0)),.t (.v (.int .i64 0)),.t (.v (.int .i64 0)),.t (.v (.int .i64 0)),.t (.v (.int .i64 0)),.t (.v (.int .i64 0)),.t (.v (.int .i64 0)),.t (.v (.int .i64 0)),.t (.v (.int .i64 0)),.t (.v (.int .i64 0)),.nl,.t (.v (.pointer none)),.nl,.nl,.nl,.nl,.nl,.nl,.t (.v (.int .i64 0))]:=⟨_,_,_,AdD,rfl,rfl⟩
instance:Zr Tryz.prog 125 [.t (.v (.int .i64 0)),.nl,.nl]:=⟨_,_,_,inf125,rfl,rfl⟩
instance:Zr Tryz.prog 135 [.nl,.nl,.nl,.t (.v (.bool false))]:=⟨_,_,_,AdE,rfl,rfl⟩
instance:Zr Tryz.prog 141 [.t (.v (.int .i64 0)),.t (.v (.int .i64 0)),.t (.v (.int .i64 0))]:=⟨_,_,_,inf141,rfl,rfl⟩
instance:Zr Tryz.prog 145 [.t (.v (.bool false)),.t (.v (.bool false)),.t (.v (.bool false)),.t (.v (.int .i64 0)),.nl,.t (.v (.int .i64 0)),.t (.v (.int .i64 0))]:=⟨_,_,_,inf145,rfl,rfl⟩
instance:Zr Tryz.prog 152 [.t (.v (.int .i64 0)),.t (.v (.bool false)),.nl]:=⟨_,_,_,inf152,rfl,rfl⟩
instance:Zr Tryz.prog 167 [.t (.v (.bool false)),.t (.v (.int .i64 0)),.t (.v (.int .i64 0)),.nl]:=⟨_,_,_,inf167,rfl,rfl⟩
instance:Zr Tryz.prog 187 [.t (.v (.int .i64 0)),.t (.v (.int .i64 0)),.t (.v (.int .i64 0)),.t (.v (.int .i64 0)),.t (.v (.int .i64 0)),.t (.v (.bool false)),.nl,.t (.v (.bool false)),.t (.v (.int .i64 0)),.t (.v (.int .i64 0)),.t (.v (.int .i64 0)),.t (.v (.int .i64 0)),.t (.v (.int .i64 0)),.t (.v (.bool false)),.t (.v (.int .i64 0)),.t (.v (.int .i64 0)),.nl,.nl,.t (.v (.int .u64 0)),.nl,.nl,.nl,.t (.v (.int .i64 0)),.t (.v (.int .i64 0)),.nl,.nl,.t (.v (.int .i64 0)),.t (.v (.int .i64 0)),.t (.v (.int .i64 0)),.t (.v (.int .i64 0)),.t (.v (.int .i64 0)),.t (.v (.bool false)),.t (.v (.bool false)),.t (.v (.bool false)),.t (.v (.int .i64 0)),.t (.v (.int .i64 0)),.t (.v (.int .i64 0)),.t (.v (.int .i64 0)),.t (.v (.int .i64 0)),.t (.v (.int .i64 0)),.t (.v (.int .i64 0)),.t (.v (.int .i64 0)),.t (.v (.int .i64 0)),.t (.v (.int .i64 0)),.nl,.t (.v (.pointer none)),.t (.v (.int .i64 0)),.t (.v (.int .i64 0)),.t (.v (.bool false)),.nl]:=⟨_,_,_,AdF,rfl,rfl⟩
instance:Zr Tryz.prog 202 [.t (.v (.int .i64 0)),.t (.v (.int .i64 0)),.t (.v (.bool false)),.t (.v (.bool false)),.nl,.nl,.t (.v (.int .i64 0)),.t (.v (.int .i64 0)),.t (.v (.int .i64 0)),.t (.v (.int .i64 0)),.nl]:=⟨_,_,_,AdG,rfl,rfl⟩
instance:Zr Tryz.prog 233 [.t (.v (.int .i64 0)),.t (.v (.int .i64 0))]:=⟨_,_,_,inf233,rfl,rfl⟩
instance:Zr Tryz.prog 236 [.t (.v (.int .i64 0)),.t (.v (.int .i64 0)),.t (.v (.int .i64 0))]:=⟨_,_,_,inf236,rfl,rfl⟩
instance:Zr Tryz.prog 239 [.t (.v (.int .i64 0)),.t (.v (.int .i64 0)),.t (.v (.int .i64 0)),.t (.v (.int .i64 0)),.t (.v (.int .i64 0))]:=⟨_,_,_,inf239,rfl,rfl⟩
instance:Zr Tryz.prog 288 [.nl]:=⟨_,_,_,AdH,rfl,rfl⟩
instance:Zr Tryz.prog 295 [.t (.v (.int .i64 0)),.nl,.nl,.nl,.t (.v (.int .i64 0)),.t (.v (.int .i64 0)),.t (.v (.int .i64 0)),.t (.v (.int .i64 0)),.t (.v (.int .i64 0)),.t (.v (.int .i64 0)),.t (.v (.int .i64 0)),.t (.v (.int .i64 0)),.t (.v (.int .i64 0)),.t (.v (.int .i64 0)),.nl,.t (.v (.int .i64 0)),.t (.v (.int .i64 0))]:=⟨_,_,_,AdI,rfl,rfl⟩
instance:Bp Tryz.prog 24 [(0,1),(1,1),(2,1),(3,1),(4,1),(5,1),(6,1),(7,1),(8,1),(9,1),(10,1)]:=⟨_,AhB,by kernel_rfl⟩
instance:Bp Tryz.prog 32 [(0,1),(1,1),(2,1),(3,1),(4,1)]:=⟨_,ud32,by kernel_rfl⟩
instance:Bp Tryz.prog 34 [(0,1),(1,1),(2,5),(7,1),(8,1)]:=⟨_,AzD,by kernel_rfl⟩
instance:Bp Tryz.prog 45 [(0,1),(1,1)]:=⟨_,ud45,by kernel_rfl⟩
instance:Bp Tryz.prog 51 [(0,2),(2,1),(3,1),(4,1)]:=⟨_,ud51,by kernel_rfl⟩
instance:Bp Tryz.prog 53 [(0,1),(1,1),(2,1),(3,1)]:=⟨_,ud53,by kernel_rfl⟩
instance:Bp Tryz.prog 55 [(0,1),(1,1),(2,5),(7,1),(8,1),(9,1),(10,1),(11,1),(12,1),(13,1),(14,2),(16,1),(17,1),(18,1),(19,1),(20,1),(21,1),(22,5),(27,4),(31,1),(32,1),(33,1)]:=⟨_,ud55,by kernel_rfl⟩
instance:Bp Tryz.prog 63 [(0,1),(1,1),(2,1)]:=⟨_,AzE,by kernel_rfl⟩
instance:Bp Tryz.prog 65 [(0,1),(1,1),(2,1),(3,5)]:=⟨_,AzF,by kernel_rfl⟩
instance:Bp Tryz.prog 75 [(0,1),(1,1),(2,1),(3,1),(4,5),(9,4)]:=⟨_,AzG,by kernel_rfl⟩
instance:Bp Tryz.prog 83 [(0,1),(1,1),(2,1),(3,1),(4,1),(5,1),(6,1)]:=⟨_,AhC,by kernel_rfl⟩
instance:Bp Tryz.prog 97 [(0,1),(1,1),(2,1),(3,1)]:=⟨_,ud97,by kernel_rfl⟩
instance:Bp Tryz.prog 101 [(0,1),(1,1),(2,1),(3,1),(4,1)]:=⟨_,ud101,by kernel_rfl⟩
instance:Bp Tryz.prog 114 [(0,11),(11,1),(12,1),(13,1),(14,1),(15,1),(16,1),(17,1),(18,1)]:=⟨_,AnV,by kernel_rfl⟩
instance:Bp Tryz.prog 125 [(0,1),(1,1),(2,1)]:=⟨_,ud125,by kernel_rfl⟩
instance:Bp Tryz.prog 135 [(0,1),(1,1),(2,1),(3,1)]:=⟨_,AnW,by kernel_rfl⟩
instance:Bp Tryz.prog 141 [(0,1),(1,1),(2,1)]:=⟨_,AnX,by kernel_rfl⟩
instance:Bp Tryz.prog 145 [(0,1),(1,1),(2,1),(3,1),(4,1),(5,1),(6,1)]:=⟨_,ud145,by kernel_rfl⟩
instance:Bp Tryz.prog 152 [(0,1),(1,1),(2,1)]:=⟨_,ud152,by kernel_rfl⟩
instance:Bp Tryz.prog 167 [(0,1),(1,1),(2,1),(3,1)]:=⟨_,AgZ,by kernel_rfl⟩
instance:Bp Tryz.prog 187 [(0,34),(34,11),(45,1),(46,1),(47,3)]:=⟨_,AnY,by kernel_rfl⟩
instance:Bp Tryz.prog 202 [(0,5),(5,1),(6,4),(10,1)]:=⟨_,AnZ,by kernel_rfl⟩
instance:Bp Tryz.prog 233 [(0,1),(1,1)]:=⟨_,e5_,by kernel_rfl⟩
instance:Bp Tryz.prog 236 [(0,2),(2,1)]:=⟨_,AoA,by kernel_rfl⟩
instance:Bp Tryz.prog 239 [(0,1),(1,4)]:=⟨_,AhA,by kernel_rfl⟩
instance:Bp Tryz.prog 288 [(0,1)]:=⟨_,AoB,by kernel_rfl⟩
instance:Bp Tryz.prog 295 [(0,4),(4,11),(15,1),(16,1)]:=⟨_,AoC,by kernel_rfl⟩
end
section
open Go.ChangeShapes Go.WideShapes
structure HR where
 thread:Int
 kind:Int
 addr:Int
 want:Int
 old:Int
 now:Int
 ok:Bool
 deriving DecidableEq,Inhabited
def tAc (x:HR):List Tr:=tI x.thread++tI x.kind++tI x.addr++tU x.want++tU x.old++tU x.now++tB x.ok
structure EG where
 kind:Int
 thread:Int
 req:AT
 inn:Int
 outs:List Int
 deriving DecidableEq,Inhabited
def tEv (x:EG):List Tr:=tI x.kind++tI x.thread++tRq x.req++tI x.inn++tL tI x.outs
def sEv (x:EG):Prop:=sI x.kind∧sI x.thread∧sRq x.req∧sI x.inn∧(sL sI 8) x.outs
def bEv (x:EG):Nat:=b1 x.kind+b1 x.thread+bRq x.req+b1 x.inn+(bL b1) x.outs
theorem BcH {H:Type} {enc:TypeId × Value→H} {W:World}:BP enc Tryz.prog W 34 tEv sEv bEv:=by
 refine BP.map (BP.struct (n:=9) Tryz.underlying34 bF (fun _=>rfl) (BI.cons (s:=1) rfl rfl bF (fun _=>rfl) EE (BI.cons (s:=1) rfl rfl bF (fun _=>rfl) EE (BI.cons (s:=5) rfl rfl bF (fun _=>rfl) BcI (BI.cons (s:=1) rfl rfl bF (fun _=>rfl) EE (BI.cons (s:=1) rfl rfl bF (fun _=>rfl) AeX BI.nil)))))) (fun (p:Int × Int × AT × Int × List Int × Unit)=>⟨p.1,p.2.1,p.2.2.1,p.2.2.2.1,p.2.2.2.2.1⟩) (fun p=>?_) (fun p h=>?_) (fun p=>?_)
 ·simp [tEv,gU,tI,tL,tRq]
 ·obtain ⟨h0,h1,h2,h3,h4,_⟩:=h;exact ⟨h0,h1,h2,h3,h4⟩
 ·exact Nat.le_of_eq (by simp only [bEv,lP,iK])
theorem AxW {H:Type} {enc:TypeId × Value→H} {W:World}:BP enc Tryz.prog W 25 (tL tEv) (sL sEv 104) (bL bEv):=BP.slice (s:=9) Tryz.underlying25 bF bF (fun _=>rfl) BcH
structure AC where
 pc:Int
 seq:Int
 req:AT
 slow:Bool
 round:Int
 i:Int
 j:Int
 tri:Int
 epoch:Int
 all_:Bool
 base:IW
 buf:List Int
 nxt:List Int
 word:Int
 args:List Int
 found:List DOp
 seen:List Int
 pool:BV
 res:Rst
 won:Bool
 waits:Bool
 scans:Bool
 deriving DecidableEq,Inhabited
end
def ixF {α:Type} (p:α→Bool):List α→Int
 | [] => -1
 |a::l=>if p a then 0 else if ixF p l<0 then -1 else ixF p l+1
theorem ZR {α:Type} (p:α→Bool) : ∀l:List α, -1≤ixF p l∧ixF p l<l.length
  | []=>by simp [ixF]
  | a :: l => by have:=ZR p l;unfold ixF;simp only [fY];repeat' split
                 all_goals omega
theorem JG {α:Type} (p:α→Bool) : ∀(l:List α) (j:Nat) (a:α),(∀q,q<j → ∀b,l[q]? = some b→p b=false)→l[j]? = some a→p a=true→ixF p l=j
 | [],j,a,_,h,_=>by simp at h
 |b::l,0,a,_,h,hp=>by simp at h;subst h;simp [ixF,hp]
 |b::l,j+1,a,h0,h,hp=>by
  have h1:=JG p l j a (fun q hq c hc=>h0 (q+1) (by omega) c (by simpa using hc)) fD hp
  have h2:=h0 0 (by omega) b rfl
  unfold ixF
  rw [h2,h1];simp;omega
theorem EY {α:Type} (p:α→Bool) : ∀l:List α,(∀q:Nat,∀b,l[q]? = some b→p b=false)→ixF p l = -1
 | [],_=>rfl
 |b::l,h0=>by
  have h1:=EY p l (fun q c hc=>h0 (q+1) c (by simpa using hc))
  have h2:=h0 0 b rfl
  unfold ixF
  rw [h2,h1];simp
theorem PU {α:Type} (p:α→Bool) : ∀l:List α,0≤ixF p l → ∃a,l[(ixF p l).toNat]? = some a∧p a=true
 | [],h=>by simp [ixF] at h
 | b::l,h=>by
  unfold ixF at h ⊢
  cases hp:p b
  ·simp only [hp,iC,jC] at h ⊢
   by_cases h2:ixF p l<0
   ·rw [fL h2] at h;omega
   ·rw [fM h2] at h ⊢
    obtain ⟨a,ha,hq⟩:=PU p l (by omega)
    refine ⟨a,?_,hq⟩
    rw [show (ixF p l+1).toNat=(ixF p l).toNat+1 by omega];simpa using ha
  ·exact ⟨b,by simp,hp⟩
theorem AjP {α:Type} (p:α→Bool) {l:List α} {q:Nat} {a:α} (h:l[q]? = some a) (hp:p a=true):0≤ixF p l:=by
 by_cases h0:0≤ixF p l
 ·exact h0
 ·exfalso
  have hb:=(ZR p l).1
  suffices h : ∀(l:List α) (q:Nat),l[q]? = some a→ixF p l ≠ -1 by exact h l q ‹_› (by omega)
  intro l
  induction l with
  |nil=>intro q h;simp at h
  | cons b l ih =>
   intro q h
   unfold ixF
   cases q with
   |zero=>simp at h;subst h;simp [hp]
   |succ q =>
    have h1:=ih q fD
    have h2:=(ZR p l).1
    repeat' split
    all_goals omega
def HL (l:List AH) (t:Int):Bool:=decide (0≤t∧t<l.length∧(l.getD t.toNat default).on=false)
def putW (l:List AH) (t:Int) (w:AH):List AH:=if HL l t then l.set t.toNat ⟨true,w.ticket,w.seq,w.cases⟩ else l
def IU (l:List AH) (t:Int):Bool:=decide (0≤t∧t<l.length∧(l.getD t.toNat default).on=true)
def w0:AH:=⟨false,0,0,[]⟩
def cutW (l:List AH) (t:Int):List AH:=if IU l t then l.set t.toNat w0 else l
theorem DL (l:List AH) (t:Int) (w:AH):(putW l t w).length=l.length:=by unfold putW;split<;>simp
theorem CM (l:List AH) (t:Int):(cutW l t).length=l.length:=by unfold cutW;split<;>simp
structure FS where
 th:Int
 wh:Int
 ok:Bool
def isC (d h:Int) (c:BD):Bool:=decide (c.dir=d∧c.handle=h)
def HZ (l:List AH) (d h:Int):Nat→FS
 |0=>⟨0,0,false⟩
 |k+1=>if (l.getD k default).on=true∧0≤ixF (isC d h) (l.getD k default).cases∧((HZ l d h k).ok=false∨(l.getD k default).ticket<(l.getD (HZ l d h k).th.toNat default).ticket) then ⟨k,ixF (isC d h) (l.getD k default).cases,true⟩ else HZ l d h k
theorem m9_ (l:List AH) (d h:Int) (k:Nat):((HZ l d h k).ok=false∧(HZ l d h k).th=0∧(HZ l d h k).wh=0)∨((HZ l d h k).ok=true ∧ ∃t:Nat,(HZ l d h k).th=t∧t<k∧(l.getD t default).on=true∧(HZ l d h k).wh=ixF (isC d h) (l.getD t default).cases∧0≤(HZ l d h k).wh):=by
 induction k with
 |zero=>exact .inl ⟨rfl,rfl,rfl⟩
 | succ k ih =>
  unfold HZ
  split
  ·rename_i hc;exact .inr ⟨rfl,k,rfl,by omega,hc.1,rfl,hc.2.1⟩
  ·rcases ih with ih|⟨h0,t,h1,h2,h3,h4,h5⟩
   ·exact .inl ih
   ·exact .inr ⟨h0,t,h1,by omega,h3,h4,h5⟩
section
attribute [local irreducible] AL AW RG Fin C Cd Cio AI AF AN
theorem PT {α:Type} (p:α→Bool) (l:List α):decide (0≤ixF p l)=l.any p:=by
 cases h:l.any p
 ·refine fP fun h2=>?_
  obtain ⟨a,ha,hp⟩:=PU p l h2
  rw [List.any_eq_false] at h
  exact h a (fI ha) hp
 ·obtain ⟨a,ha,hp⟩:=kU.1 h
  obtain ⟨q,hq⟩:=jF ha
  exact fR (AjP p hq hp)
theorem AjI (f:FuncId) (fi cap:List AV) (p:Int→Bool) (l:List Int) (hg : ∀c∈l,CV Tryz.prog (.fn (.func f) fi cap) [i64 c] (.t (.v (.bool (p c)))) []) (hup:upB (CK 0) (.fn (.func f) fi cap) = .fn (.func f) fi cap)
  (hl:l.length≤1152921504606846976):Cd Tryz.prog 255 [.ln (l.map tI),.fn (.func f) fi cap] (i64 (ixF p l)) []:=by
 have h1:(l.map tI).length=l.length:=fH _
 refine ZEN Tryz.func255 Tryz.ntmps255 ?_
 repeat' (first|refine A0 ?_|fail)
 refine AW.loopP (fun (q:Nat)=>q≤l.length ∧ ∀j,j<q → ∀b,l[j]? = some b→p b=false) (fun (q:Nat)=>(pu (pu (pu (pu (fun _=>.any) 0 (.ln (l.map tI))) 1 (.fn (.func f) fi cap)) 7 (i64 (l.map tI).length)) 8 (i64 q))) (fun (q:Nat)=>[]) (fun (q:Nat)=>l.length-q) (0) ?_ ?_ ?_
 ·exact ⟨fO _,fun j hj=>by omega⟩
 ·exact Wk.cq 0
 ·rintro q ⟨h2,h3⟩
  by_cases hq:q<l.length
  ·obtain ⟨a,ha⟩ : ∃a,l[q]? = some a:=⟨_,ZgE hq⟩
   have c1:=hg a (fI ha)
   cases hp:p a
   ·rw [hp] at c1
    repeat' (first|refine Am ?_|fail)
    all_goals try exact ZE5
    refine ⟨q+1,⟨by omega,fun j hj b hb=>?_⟩,by omega,?_⟩
    ·by_cases e:j=q
     ·subst e;rw [ha] at hb;cases hb;exact hp
     ·exact h3 j (by omega) b hb
    ·exact Wk.cq 0
   ·rw [hp] at c1
    rw [JG p l q a h3 ha hp]
    repeat' (first|refine Am ?_|fail)
    all_goals exact A2 Tryz.results255
  ·rw [EY p l fun j b hb=>h3 j eJ b hb]
   repeat' (first|refine A0 ?_|fail)
   all_goals exact A2 Tryz.results255
theorem m4_ (f:FuncId) (fi cap:List AV) (p:Int→Bool) (l:List Int) (hg : ∀c∈l,CV Tryz.prog (.fn (.func f) fi cap) [i64 c] (.t (.v (.bool (p c)))) []) (hup:upB (CK 0) (.fn (.func f) fi cap) = .fn (.func f) fi cap) (hps : ∀heap sel,BG heap sel (.fn (.func f) fi cap) (.fn (.func f) fi cap))
  (hl:l.length≤1152921504606846976):Cd Tryz.prog 232 [.ln (l.map tI),.fn (.func f) fi cap] (bo (l.any p)) []:=by
 have c1:=AjI f fi cap p l hg hup hl
 rw [←PT]
 refine ZEN Tryz.func232 Tryz.ntmps232 ?_
 by_cases h:0≤ixF p l
 ·rw [fR h]
  repeat' (first|refine A6 ?_|fail)
  all_goals exact A2 Tryz.results232
 ·rw [fP h]
  repeat' (first|refine A6 ?_|fail)
  all_goals exact A2 Tryz.results232
theorem AjJ (f:FuncId) (fi cap:List AV) (p:Rst→Bool) (l:List Rst) (hg : ∀c∈l,CV Tryz.prog (.fn (.func f) fi cap) [.agg ((tR c).map .t)] (.t (.v (.bool (p c)))) []) (hup:upB (CK 0) (.fn (.func f) fi cap) = .fn (.func f) fi cap)
  (hl:l.length≤1152921504606846976):Cd Tryz.prog 265 [.ln (l.map tR),.fn (.func f) fi cap] (i64 (ixF p l)) []:=by
 have h1:(l.map tR).length=l.length:=fH _
 refine ZEN Tryz.func265 Tryz.ntmps265 ?_
 repeat' (first|refine A0 ?_|fail)
 refine AW.loopP (fun (q:Nat)=>q≤l.length ∧ ∀j,j<q → ∀b,l[j]? = some b→p b=false) (fun (q:Nat)=>(pu (pu (pu (pu (fun _=>.any) 0 (.ln (l.map tR))) 1 (.fn (.func f) fi cap)) 7 (i64 (l.map tR).length)) 8 (i64 q))) (fun (q:Nat)=>[]) (fun (q:Nat)=>l.length-q) (0) ?_ ?_ ?_
 ·exact ⟨fO _,fun j hj=>by omega⟩
 ·exact Wk.cq 0
 ·rintro q ⟨h2,h3⟩
  by_cases hq:q<l.length
  ·obtain ⟨a,ha⟩ : ∃a,l[q]? = some a:=⟨_,ZgE hq⟩
   have c1:=hg a (fI ha)
   cases hp:p a
   ·rw [hp] at c1
    repeat' (first|refine Am ?_|fail)
    all_goals try exact ZE5
    refine ⟨q+1,⟨by omega,fun j hj b hb=>?_⟩,by omega,?_⟩
    ·by_cases e:j=q
     ·subst e;rw [ha] at hb;cases hb;exact hp
     ·exact h3 j (by omega) b hb
    ·exact Wk.cq 0
   ·rw [hp] at c1
    rw [JG p l q a h3 ha hp]
    repeat' (first|refine Am ?_|fail)
    all_goals exact A2 Tryz.results265
  ·rw [EY p l fun j b hb=>h3 j eJ b hb]
   repeat' (first|refine A0 ?_|fail)
   all_goals exact A2 Tryz.results265
theorem AiM (f:FuncId) (fi cap:List AV) (p:Rst→Bool) (l:List Rst) (hg : ∀c∈l,CV Tryz.prog (.fn (.func f) fi cap) [.agg ((tR c).map .t)] (.t (.v (.bool (p c)))) []) (hup:upB (CK 0) (.fn (.func f) fi cap) = .fn (.func f) fi cap) (hps : ∀heap sel,BG heap sel (.fn (.func f) fi cap) (.fn (.func f) fi cap))
  (hl:l.length≤1152921504606846976):Cd Tryz.prog 256 [.ln (l.map tR),.fn (.func f) fi cap] (bo (l.any p)) []:=by
 have c1:=AjJ f fi cap p l hg hup hl
 rw [←PT]
 refine ZEN Tryz.func256 Tryz.ntmps256 ?_
 by_cases h:0≤ixF p l
 ·rw [fR h]
  repeat' (first|refine A6 ?_|fail)
  all_goals exact A2 Tryz.results256
 ·rw [fP h]
  repeat' (first|refine A6 ?_|fail)
  all_goals exact A2 Tryz.results256
theorem AjH (f:FuncId) (fi cap:List AV) (p:AX→Bool) (l:List AX) (hg : ∀c∈l,CV Tryz.prog (.fn (.func f) fi cap) [.agg ((tCh c).map .t)] (.t (.v (.bool (p c)))) []) (hup:upB (CK 0) (.fn (.func f) fi cap) = .fn (.func f) fi cap)
  (hl:l.length≤1152921504606846976):Cd Tryz.prog 258 [.ln (l.map tCh),.fn (.func f) fi cap] (i64 (ixF p l)) []:=by
 have h1:(l.map tCh).length=l.length:=fH _
 refine ZEN Tryz.func258 Tryz.ntmps258 ?_
 repeat' (first|refine A0 ?_|fail)
 refine AW.loopP (fun (q:Nat)=>q≤l.length ∧ ∀j,j<q → ∀b,l[j]? = some b→p b=false) (fun (q:Nat)=>(pu (pu (pu (pu (fun _=>.any) 0 (.ln (l.map tCh))) 1 (.fn (.func f) fi cap)) 7 (i64 (l.map tCh).length)) 8 (i64 q))) (fun (q:Nat)=>[]) (fun (q:Nat)=>l.length-q) (0) ?_ ?_ ?_
 ·exact ⟨fO _,fun j hj=>by omega⟩
 ·exact Wk.cq 0
 ·rintro q ⟨h2,h3⟩
  by_cases hq:q<l.length
  ·obtain ⟨a,ha⟩ : ∃a,l[q]? = some a:=⟨_,ZgE hq⟩
   have c1:=hg a (fI ha)
   cases hp:p a
   ·rw [hp] at c1
    repeat' (first|refine Am ?_|fail)
    all_goals try exact ZE5
    refine ⟨q+1,⟨by omega,fun j hj b hb=>?_⟩,by omega,?_⟩
    ·by_cases e:j=q
     ·subst e;rw [ha] at hb;cases hb;exact hp
     ·exact h3 j (by omega) b hb
    ·exact Wk.cq 0
   ·rw [hp] at c1
    rw [JG p l q a h3 ha hp]
    repeat' (first|refine Am ?_|fail)
    all_goals exact A2 Tryz.results258
  ·rw [EY p l fun j b hb=>h3 j eJ b hb]
   repeat' (first|refine A0 ?_|fail)
   all_goals exact A2 Tryz.results258
theorem AiL (f:FuncId) (fi cap:List AV) (p:AX→Bool) (l:List AX) (hg : ∀c∈l,CV Tryz.prog (.fn (.func f) fi cap) [.agg ((tCh c).map .t)] (.t (.v (.bool (p c)))) []) (hup:upB (CK 0) (.fn (.func f) fi cap) = .fn (.func f) fi cap) (hps : ∀heap sel,BG heap sel (.fn (.func f) fi cap) (.fn (.func f) fi cap))
  (hl:l.length≤1152921504606846976):Cd Tryz.prog 237 [.ln (l.map tCh),.fn (.func f) fi cap] (bo (l.any p)) []:=by
 have c1:=AjH f fi cap p l hg hup hl
 rw [←PT]
 refine ZEN Tryz.func237 Tryz.ntmps237 ?_
 by_cases h:0≤ixF p l
 ·rw [fR h]
  repeat' (first|refine A6 ?_|fail)
  all_goals exact A2 Tryz.results237
 ·rw [fP h]
  repeat' (first|refine A6 ?_|fail)
  all_goals exact A2 Tryz.results237
theorem AjK (f:FuncId) (fi cap:List AV) (p:AH→Bool) (l:List AH) (hg : ∀c∈l,CV Tryz.prog (.fn (.func f) fi cap) [.agg ((tWt c).map .t)] (.t (.v (.bool (p c)))) []) (hup:upB (CK 0) (.fn (.func f) fi cap) = .fn (.func f) fi cap)
  (hl:l.length≤1152921504606846976):Cd Tryz.prog 259 [.ln (l.map tWt),.fn (.func f) fi cap] (i64 (ixF p l)) []:=by
 have h1:(l.map tWt).length=l.length:=fH _
 refine ZEN Tryz.func259 Tryz.ntmps259 ?_
 repeat' (first|refine A0 ?_|fail)
 refine AW.loopP (fun (q:Nat)=>q≤l.length ∧ ∀j,j<q → ∀b,l[j]? = some b→p b=false) (fun (q:Nat)=>(pu (pu (pu (pu (fun _=>.any) 0 (.ln (l.map tWt))) 1 (.fn (.func f) fi cap)) 7 (i64 (l.map tWt).length)) 8 (i64 q))) (fun (q:Nat)=>[]) (fun (q:Nat)=>l.length-q) (0) ?_ ?_ ?_
 ·exact ⟨fO _,fun j hj=>by omega⟩
 ·exact Wk.cq 0
 ·rintro q ⟨h2,h3⟩
  by_cases hq:q<l.length
  ·obtain ⟨a,ha⟩ : ∃a,l[q]? = some a:=⟨_,ZgE hq⟩
   have c1:=hg a (fI ha)
   cases hp:p a
   ·rw [hp] at c1
    repeat' (first|refine Am ?_|fail)
    all_goals try exact ZE5
    refine ⟨q+1,⟨by omega,fun j hj b hb=>?_⟩,by omega,?_⟩
    ·by_cases e:j=q
     ·subst e;rw [ha] at hb;cases hb;exact hp
     ·exact h3 j (by omega) b hb
    ·exact Wk.cq 0
   ·rw [hp] at c1
    rw [JG p l q a h3 ha hp]
    repeat' (first|refine Am ?_|fail)
    all_goals exact A2 Tryz.results259
  ·rw [EY p l fun j b hb=>h3 j eJ b hb]
   repeat' (first|refine A0 ?_|fail)
   all_goals exact A2 Tryz.results259
theorem AiN (f:FuncId) (fi cap:List AV) (p:AH→Bool) (l:List AH) (hg : ∀c∈l,CV Tryz.prog (.fn (.func f) fi cap) [.agg ((tWt c).map .t)] (.t (.v (.bool (p c)))) []) (hup:upB (CK 0) (.fn (.func f) fi cap) = .fn (.func f) fi cap) (hps : ∀heap sel,BG heap sel (.fn (.func f) fi cap) (.fn (.func f) fi cap))
  (hl:l.length≤1152921504606846976):Cd Tryz.prog 240 [.ln (l.map tWt),.fn (.func f) fi cap] (bo (l.any p)) []:=by
 have c1:=AjK f fi cap p l hg hup hl
 rw [←PT]
 refine ZEN Tryz.func240 Tryz.ntmps240 ?_
 by_cases h:0≤ixF p l
 ·rw [fR h]
  repeat' (first|refine A6 ?_|fail)
  all_goals exact A2 Tryz.results240
 ·rw [fP h]
  repeat' (first|refine A6 ?_|fail)
  all_goals exact A2 Tryz.results240
end
abbrev u64 (x:Int):AV:=.t (.v (.int .u64 x))
abbrev aCf (c:AB):AV:=.agg [i64 c.kind,i64 c.threads,i64 c.chans,i64 c.cap,i64 c.nodes,i64 c.retire,i64 c.patience,i64 c.tags,i64 c.seqs,i64 c.gens,.ln (c.start.map tI)]
abbrev aCh (x:AX):AV:=.agg [i64 x.gen,i64 x.cap,bo x.used,bo x.closed,.ln (x.buf.map tI)]
abbrev aWt (w:AH):AV:=.agg [bo w.on,i64 w.ticket,i64 w.seq,.ln (w.cases.map tCs)]
abbrev aHl (h:AM):AV:=.agg [i64 h.ticket,.ln (h.chans.map tCh),.ln (h.waits.map tWt),.ln (h.done.map tR)]
abbrev aCl (x:CL):AV:=.agg [i64 x.cap,.ln (x.list.map tI),.ln (x.done.map tR)]
abbrev aRq (q:AT):AV:=.agg [i64 q.kind,i64 q.arg,i64 q.value,bo q.dflt,.ln (q.cases.map tCs)]
abbrev aR (r:Rst):AV:=.agg [i64 r.seq,i64 r.cas,i64 r.code,i64 r.value]
abbrev fCf (c:AB):AV:=.agg [i64 c.kind,i64 c.threads,i64 c.chans,i64 c.cap,i64 c.nodes,i64 c.retire,i64 c.patience,i64 c.tags,i64 c.seqs,i64 c.gens,.t (.lst (c.start.map tI))]
end Go.Proofs.YtccefppppedgkaaGreat
