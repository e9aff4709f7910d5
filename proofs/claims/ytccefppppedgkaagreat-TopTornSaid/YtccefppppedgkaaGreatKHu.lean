/- Joined: XLib, XTRefRead, XTRefs, XTTake, XTBack, XTEpoch, XTIdx, XTSlots, XTBehind, XTHallT, XTStartF, XTPutH, XTOpK. -/
import Derived.WalkKit
import Derived.WalkLawsBesides
import Derived.Lib.Hide
import Derived.Deep.RegionHeld3
import Derived.Test.YtccefppppedgkaaGreatKHt
set_option linter.unusedVariables false
set_option linter.unusedSimpArgs false
set_option linter.unnecessarySimpa false
set_option maxRecDepth 100000
set_option maxHeartbeats 64000000
namespace Go.Proofs.YtccefppppedgkaaGreat
open Go.RowKit
section
def good (i t:Int):Bool:=decide (0≤i∧i≤65534∧1≤t∧t≤4294967295)
variable {i t:Int}
theorem HR :good i t=true↔0≤i∧i≤65534∧1≤t∧t≤4294967295:=by unfold good;simp
def word (i t:Int):Int:=if good i t then t*65536+i+1 else 0
theorem AoY (h:good i t=false):word i t=0:=by unfold word;rw [h];rfl
theorem UP (h:good i t=true):word i t=t*65536+i+1:=by unfold word;rw [h];rfl
theorem QI (i t:Int):0≤word i t∧word i t<18446744073709551616:=by
 cases h:good i t
 ·rw [AoY h];omega
 ·have:=HR.1 h;rw [UP h];omega
def ND (x:Int):Bool:=decide (x%65536≠0∧1≤x/65536∧x/65536≤4294967295)
def rdI (x:Int):Int:=if ND x then x%65536-1 else 0
def rdT (x:Int):Int:=if ND x then x/65536 else 0
variable {x:Int}
theorem TU (h:x%65536≠0∧1≤x/65536∧x/65536≤4294967295):rdI x=x%65536-1∧rdT x=x/65536∧ND x=true:=by
 have hok:ND x=true:=fW h
 unfold rdI rdT;rw [fR hok,fR hok];exact ⟨rfl,rfl,hok⟩
def LM (i t last:Int):Bool:=decide (0≤t∧t<last∧t<4294967295∧0≤i∧i≤65534)
def nxI (i t last:Int):Int:=if LM i t last then i else 0
def nxT (i t last:Int):Int:=if LM i t last then t+1 else 0
variable {last:Int}
theorem AgY (h:0≤t∧t<last∧t<4294967295∧0≤i∧i≤65534):nxI i t last=i∧nxT i t last=t+1∧LM i t last=true:=by
 have hok:LM i t last=true:=fW h
 unfold nxI nxT;rw [fR hok,fR hok];exact ⟨rfl,rfl,hok⟩
theorem BaJ (h : ¬(0≤t∧t<last∧t<4294967295∧0≤i∧i≤65534)):nxI i t last=0∧nxT i t last=0∧LM i t last=false:=by
 have hok:LM i t last=false:=fZ h
 unfold nxI nxT;rw [hok];exact ⟨rfl,rfl,rfl⟩
theorem u9_ (h0:0≤x) (h1:x<18446744073709551616) (h:ND x=true):good (rdI x) (rdT x)=true∧word (rdI x) (rdT x)=x:=by
 have hx:x%65536≠0∧1≤x/65536∧x/65536≤4294967295:=by unfold ND at h;exact jO h
 obtain ⟨a,b,c⟩:=TU hx
 have hg:good (x%65536-1) (x/65536)=true:=HR.2 ⟨by omega,by omega,by omega,by omega⟩
 rw [a,b];exact ⟨hg,by rw [UP hg];omega⟩
theorem AnH (h:good i t=true):ND (word i t)=true∧rdI (word i t)=i∧rdT (word i t)=t:=by
 obtain ⟨a,b,c,d⟩:=HR.1 h
 rw [UP h]
 obtain ⟨x,y,z⟩:=TU (x:=t*65536+i+1) ⟨by omega,by omega,by omega⟩
 exact ⟨z,by rw [x];omega,by rw [y];omega⟩
end
section
attribute [local irreducible] AL AW RG Fin C Cd Cio AI AF AO
def PW (i t:Int):Bool:=decide (0≤i∧i≤65534∧1≤t∧t≤4294967295)
def wordF (i t:Int):Int:=if PW i t then t*65536+(i+1) else 0
def QB (w:Int):Bool:=decide (w%65536≠0∧w/65536≠0∧w/65536≤4294967295)
def AnL (w:Int):Int:=if QB w then w%65536-1 else 0
def AnN (w:Int):Int:=if QB w then w/65536 else 0
theorem r1_ (i t:Int):Cd Tryz.prog 136 [.agg [i64 i,i64 t]] (bo (PW i t)) []:=by
 unfold PW
 have cs:i<0∨(0≤i∧65534<i)∨(0≤i∧i≤65534∧t<1)∨(0≤i∧i≤65534∧1≤t∧4294967295<t)∨(0≤i∧i≤65534∧1≤t∧t≤4294967295):=by omega
 rcases cs with h|h|h|h|h
 case inr.inr.inr.inr =>
  rw [fW h]
  refine ZEN Tryz.func136 Tryz.ntmps136 ?_
  repeat' (first|refine A0 ?_|refine uS 6 (fun hb=>?_) (fun hb=>?_)|refine uS 11 (fun hb=>?_) (fun hb=>?_)|refine uS 16 (fun hb=>?_) (fun hb=>?_)|refine ZK2 (fun hc=>?_) (fun hc=>?_)|fail)
  all_goals first|(exfalso;omega)|((first|exact A6 Tryz.results136|refine A5 Tryz.results136 ?_|refine A8 Tryz.results136 ?_ ?_ ?_<;>repeat' (first|exact ZE1|refine ZE2 ?_ ?_|refine ZE3 ?_|exact ZE4|fail)))
 all_goals
  rw [fZ (by omega)]
  refine ZEN Tryz.func136 Tryz.ntmps136 ?_
  repeat' (first|refine A0 ?_|refine uS 6 (fun hb=>?_) (fun hb=>?_)|refine uS 11 (fun hb=>?_) (fun hb=>?_)|refine uS 16 (fun hb=>?_) (fun hb=>?_)|refine ZK2 (fun hc=>?_) (fun hc=>?_)|fail)
  all_goals first|(exfalso;omega)|((first|exact A6 Tryz.results136|refine A5 Tryz.results136 ?_|refine A8 Tryz.results136 ?_ ?_ ?_<;>repeat' (first|exact ZE1|refine ZE2 ?_ ?_|refine ZE3 ?_|exact ZE4|fail)))
theorem XU (i t:Int):Cd Tryz.prog 92 [.agg [i64 i,i64 t]] (u64 (wordF i t)) []:=by
 have c1:=r1_ i t
 unfold wordF
 cases h:PW i t
 ·rw [h] at c1
  rw [fT (by simp)]
  refine ZEN Tryz.func92 Tryz.ntmps92 ?_
  repeat' (first|(refine ZAL ?_;first|refine Gj ?_|refine uA ?_|refine uK (c1) ?_)|refine uC ?_|refine ZK2 (fun hc=>?_) (fun hc=>?_)|fail)
  all_goals exact A3 Tryz.results92
 ·rw [h] at c1
  rw [fR rfl]
  unfold PW at h
  have hg:=jO h
  refine ZEN Tryz.func92 Tryz.ntmps92 ?_
  repeat' (first|(refine ZAL ?_;first|refine Gj ?_|refine uA ?_|refine uK (c1) ?_)|refine uC ?_|refine ZK2 (fun hc=>?_) (fun hc=>?_)|fail)
  all_goals exact A3 Tryz.results92
theorem AlC (w:Int) (hw:0≤w∧w≤18446744073709551615):Cd Tryz.prog 55 [u64 w] (.tup [.agg [i64 (AnL w),i64 (AnN w)],bo (QB w)]) []:=by
 have c1:=XU (w%65536-1) (w/65536%4294967296)
 unfold AnL AnN
 cases h:QB w
 ·unfold QB at h
  have hn:=mV h
  have hv:wordF (w%65536-1) (w/65536%4294967296)≠w∨(w=0∧wordF (w%65536-1) (w/65536%4294967296)=0):=by
   unfold wordF PW
   split
   ·rename_i hg
    have hg:=jO hg
    omega
   ·omega
  generalize wordF (w%65536-1) (w/65536%4294967296)=v at *
  rw [fT (by simp),fT (by simp)]
  clear h hn
  rcases hv with hv|⟨hv,hv2⟩
  ·refine ZEN Tryz.func55 Tryz.ntmps55 ?_
   repeat' (first|refine Ef ?_|refine uS 18 (fun hb=>?_) (fun hb=>?_)|refine ZK2 (fun hc=>?_) (fun hc=>?_)|fail)
   all_goals exact Bc Tryz.results55
  ·subst hv hv2
   refine ZEN Tryz.func55 Tryz.ntmps55 ?_
   repeat' (first|refine Ef ?_|refine uS 18 (fun hb=>?_) (fun hb=>?_)|refine ZK2 (fun hc=>?_) (fun hc=>?_)|fail)
   all_goals exact Bc Tryz.results55
 ·unfold QB at h
  have hg:=jO h
  have hv:wordF (w%65536-1) (w/65536%4294967296)=w:=by
   unfold wordF PW
   rw [fR (fW (by omega))]
   omega
  rw [hv] at c1
  rw [fR rfl,fR rfl]
  have e:w/65536%4294967296=w/65536:=by omega
  clear h hv
  rw [←e]
  refine ZEN Tryz.func55 Tryz.ntmps55 ?_
  repeat' (first|refine Ef ?_|refine uS 18 (fun hb=>?_) (fun hb=>?_)|refine ZK2 (fun hc=>?_) (fun hc=>?_)|fail)
  all_goals exact Bc Tryz.results55
theorem AvZ (i t:Int):wordF i t=word i t:=by
 unfold wordF word PW good
 split
 ·omega
 ·rfl
theorem TV {w:Int} (h:0≤w):QB w=ND w:=by
 unfold QB ND
 rw [kJ]
 omega
theorem AnM {w:Int} (h:0≤w):AnL w=rdI w:=by unfold AnL rdI;rw [TV h]
theorem AnO {w:Int} (h:0≤w):AnN w=rdT w:=by unfold AnN rdT;rw [TV h]
theorem AsA (i t:Int):Cd Tryz.prog 136 [.agg [i64 i,i64 t]] (bo (good i t)) []:=r1_ i t
theorem LW (i t:Int):Cd Tryz.prog 92 [.agg [i64 i,i64 t]] (u64 (word i t)) []:=by
 have:=XU i t
 rwa [AvZ] at this
theorem n7_ (x:Int) (h0:0≤x) (h1:x<18446744073709551616):Cd Tryz.prog 55 [u64 x] (.tup [.agg [i64 (rdI x),i64 (rdT x)],bo (ND x)]) []:=by
 have:=AlC x ⟨h0,by omega⟩
 rwa [AnM h0,AnO h0,TV h0] at this
theorem AtK (i t last:Int):Cd Tryz.prog 246 [.agg [i64 i,i64 t],i64 last] (.tup [.agg [i64 (nxI i t last),i64 (nxT i t last)],bo (LM i t last)]) []:=by
 have c1:=AsA i (t+1)
 by_cases h:0≤t∧t<last∧t<4294967295∧0≤i∧i≤65534
 ·obtain ⟨e1,e2,e3⟩:=AgY h
  rw [e1,e2,e3]
  rw [show good i (t+1)=true from HR.2 (by omega)] at c1
  refine ZEN Tryz.func246 Tryz.ntmps246 ?_
  repeat' (first|refine A7 ?_|refine uS 15 (fun hb=>?_) (fun hb=>?_)|refine ZK2 (fun hc=>?_) (fun hc=>?_)|fail)
  all_goals exact Bc Tryz.results246
 ·obtain ⟨e1,e2,e3⟩:=BaJ h
  rw [e1,e2,e3]
  by_cases h1:t<0
  ·refine ZEN Tryz.func246 Tryz.ntmps246 ?_
   repeat' (first|refine A7 ?_|refine uS 15 (fun hb=>?_) (fun hb=>?_)|refine ZK2 (fun hc=>?_) (fun hc=>?_)|fail)
   all_goals exact Bc Tryz.results246
  ·by_cases h2:last≤t∨4294967295≤t
   ·refine ZEN Tryz.func246 Tryz.ntmps246 ?_
    repeat' (first|refine A7 ?_|refine uS 15 (fun hb=>?_) (fun hb=>?_)|refine ZK2 (fun hc=>?_) (fun hc=>?_)|fail)
    all_goals exact Bc Tryz.results246
   ·have hg:good i (t+1)=false:=by
     unfold good
     exact fZ (by omega)
    rw [hg] at c1
    refine ZEN Tryz.func246 Tryz.ntmps246 ?_
    repeat' (first|refine A7 ?_|refine uS 15 (fun hb=>?_) (fun hb=>?_)|refine ZK2 (fun hc=>?_) (fun hc=>?_)|fail)
    all_goals exact Bc Tryz.results246
structure TS where
 i:Int
 t:Int
 sp:Int
 F:List CR
def takeL (last i t:Int):Int→List CR→TS
 |sp,[]=>⟨i,t,sp,[]⟩
 |sp,s::r=>if t≠0 then ⟨i,t,sp,s::r⟩ else if LM s.index s.tag last then ⟨nxI s.index s.tag last,nxT s.index s.tag last,sp,r⟩ else takeL last i t (IntKind.i64.wrap (sp+1)) r
theorem AmT {i t last:Int} (h:LM i t last=true):nxT i t last≠0:=by
 have h':0≤t∧t<last∧t<4294967295∧0≤i∧i≤65534:=by unfold LM at h;simpa using h
 rw [(AgY h').2.1];omega
theorem PG {last i t sp:Int} {l:List CR} (h:t≠0):takeL last i t sp l=⟨i,t,sp,l⟩:=by
 cases l with
 |nil=>rfl
 |cons s r=>unfold takeL;rw [fR h]
theorem WU {last i t:Int} : ∀(l:List CR) (sp:Int),(takeL last i t sp l).F.length≤l.length
 | [],sp=>fV _
 | s::r,sp=>by
  unfold takeL
  split
  ·exact fV _
  ·split
   ·simp
   ·have:=WU (last:=last) (i:=i) (t:=t) r (IntKind.i64.wrap (sp+1));simp only [gF];omega
structure TL where
 i:Int
 t:Int
 sp:Int
 F:List CR
theorem AvS (last i t sp:Int) (fr:List CR) (ol:List CD) (hf:fr.length≤8796093022208) (ho:ol.length≤5864062014805) :
  Cd Tryz.prog 214 [.agg [i64 i,i64 t,.ln (fr.map tSl),.ln (ol.map tOd),i64 sp],i64 last]
   (.tup [.agg [i64 (takeL last i t sp fr).i,i64 (takeL last i t sp fr).t,.sl 0 0 (takeL last i t sp fr).F.length,.t (.lst (ol.map tOd)),i64 (takeL last i t sp fr).sp],bo (decide ((takeL last i t sp fr).t≠0))])
   [.row 0 233 2 ((takeL last i t sp fr).F.map tSl)]:=by
 refine ZEN Tryz.func214 Tryz.ntmps214 ?_
 repeat' (first|(refine ZAL ?_;first|(refine kL 4458 rfl ?_;first|((refine AjR (d:=11) rfl rfl Tryz.func139 rfl (pcopied_c i t sp fr ol ?zq0 ?zq1) ?_;(case zq0=>omega);(case zq1=>omega));(try refine uf 2 11 ?_);(try refine uf 3 11 ?_)))|refine uA ?_)|refine uR ?_|refine uC ?_|refine AW.drawU (id:=10) mixed 0 qR ?_|refine uS 16 (fun hb=>?_) (fun hb=>?_)|refine ZK2 (fun hc=>?_) (fun hc=>?_)|fail)
 refine AW.loopP (fun (x:TL)=>takeL last x.i x.t x.sp x.F=takeL last i t sp fr∧x.F.length≤fr.length) (fun (x:TL)=>(pu (pu (pu (pu (pu (fun _=>.any) 1 (i64 last)) 2 (.ptr 0 0)) 4 (.ptr 1 0)) 5 (bo false)) 6 (.ptr 4 0))) (fun (x:TL)=>[.box 51 [i64 i,i64 t,.ln (fr.map tSl),.ln (ol.map tOd),i64 sp],.box 51 [i64 0,i64 0,.nl,.nl,i64 0],.gone 0,.gone 0,.box 51 [i64 x.i,i64 x.t,.t (.lst (x.F.map tSl)),.t (.lst (ol.map tOd)),i64 x.sp]]) (fun (x:TL)=>x.F.length) (⟨i,t,sp,fr⟩) ?_ ?_ ?_
 ·exact ⟨rfl,fV _⟩
 ·exact Wk.cq 5
 ·rintro ⟨i',t',sp',F⟩ ⟨h2,h3⟩
  dsimp only at h2 h3 ⊢
  rw [←h2]
  have h5:(F.map tSl).length=F.length:=fN _
  by_cases ht:t'=0
  ·by_cases hF0:F=[]
   ·subst hF0 ht
    repeat' (first|(refine ZAL ?_;first|(refine kL 6378 rfl ?_;first|(refine uK (CG [] ?zq0) ?_;(case zq0=>simp)))|refine uA ?_)|refine uR ?_|refine uC ?_|refine AW.drawU (id:=10) mixed 0 qR ?_|refine uS 16 (fun hb=>?_) (fun hb=>?_)|refine ZK2 (fun hc=>?_) (fun hc=>?_)|fail)
    all_goals first|(exfalso;omega)|((first|exact Fin.q Tryz.results214 (.cons (.agg rfl rfl ud51 rfl inf51 (us:=[_,_,_,_,_]) rfl rfl) (.cons (.tmp rfl) .nil)) [5]|refine Gl Tryz.results214 ?_ ?_|refine Gm Tryz.results214 ?_ ?_ ?_<;>repeat' (first|exact ZE1|refine ZE2 ?_ ?_|refine ZE3 ?_|exact ZE4|fail)))
    all_goals first|rfl|simp [takeL]
   ·obtain ⟨s,r,hF⟩:=List.exists_cons_of_ne_nil hF0
    have h7:F.length=r.length+1:=by rw [hF];rfl
    have hr:(F.drop 1).take (F.length-1)=r:=by rw [hF];simp
    have hs1:F[0]? = some s:=by rw [hF];rfl
    have c1:=AtK s.index s.tag last
    cases hn:LM s.index s.tag last
    ·rw [hn] at c1
     repeat' (first|refine Gn ?_|refine uS 16 (fun hb=>?_) (fun hb=>?_)|refine ZK2 (fun hc=>?_) (fun hc=>?_)|fail)
     all_goals try exact ZE5
     refine ⟨⟨i',t',IntKind.i64.wrap (sp'+1),(F.drop 1).take (F.length-1)⟩,⟨by dsimp only;rw [hr,hF];conv=>rhs;unfold takeL;rw [fT (by simp [ht]),fT (by simp [hn])],by dsimp only;rw [hr];omega⟩,by dsimp only;rw [hr];omega,?_⟩
     exact Wk.cq 5
    ·rw [hn] at c1
     have hpos:=AmT hn
     repeat' (first|refine Gn ?_|refine uS 16 (fun hb=>?_) (fun hb=>?_)|refine ZK2 (fun hc=>?_) (fun hc=>?_)|fail)
     all_goals try exact ZE5
     refine ⟨⟨nxI s.index s.tag last,nxT s.index s.tag last,sp',(F.drop 1).take (F.length-1)⟩,⟨by dsimp only;rw [PG hpos,hr,hF];conv=>rhs;unfold takeL;rw [fT (by simp [ht]),fR (by simp [hn])],by dsimp only;rw [hr];omega⟩,by dsimp only;rw [hr];omega,?_⟩
     exact Wk.cq 5
  ·rw [PG ht]
   repeat' (first|(refine ZAL ?_;first|(refine kL 6378 rfl ?_;first|(refine uK (CG F ?zq0) ?_;(case zq0=>omega)))|refine uA ?_)|refine uR ?_|refine uC ?_|refine AW.drawU (id:=10) mixed 0 qR ?_|refine uS 16 (fun hb=>?_) (fun hb=>?_)|refine ZK2 (fun hc=>?_) (fun hc=>?_)|fail)
   all_goals first|(exfalso;omega)|((first|exact Fin.q Tryz.results214 (.cons (.agg rfl rfl ud51 rfl inf51 (us:=[_,_,_,_,_]) rfl rfl) (.cons (.tmp rfl) .nil)) [5]|refine Gl Tryz.results214 ?_ ?_|refine Gm Tryz.results214 ?_ ?_ ?_<;>repeat' (first|exact ZE1|refine ZE2 ?_ ?_|refine ZE3 ?_|exact ZE4|fail)))
   all_goals first|rfl|(simp [ht];done)|skip
def osl (o:CD):CR:=⟨o.ref.index,o.ref.tag⟩
def FR (pr:CD→Bool) (fr:List CR) (ol:List CD):List CR:=fr++(ol.filter pr).map osl
def EZ (pr:CD→Bool) (ol:List CD):List CD:=ol.filter fun o => !pr o
theorem SK {pr:CD→Bool} {fr:List CR} {ol:List CD} {q:Nat} {o:CD} (h:ol[q]? = some o):FR pr fr (ol.take (q+1))=if pr o then FR pr fr (ol.take q)++[osl o] else FR pr fr (ol.take q):=by
 unfold FR
 rw [iB,h,lR,iP]
 cases hp:pr o<;>simp [hp]
theorem VU {pr:CD→Bool} {ol:List CD} {q:Nat} {o:CD} (h:ol[q]? = some o):EZ pr (ol.take (q+1))=if pr o then EZ pr (ol.take q) else EZ pr (ol.take q)++[o]:=by
 unfold EZ
 rw [iB,h,lR]
 cases hp:pr o<;>simp [hp]
theorem SF (pr:CD→Bool) : ∀ol:List CD,(ol.filter pr).length+(ol.filter fun o => !pr o).length=ol.length
 | []=>rfl
 |o::ol=>by
  have:=SF pr ol
  cases hp:pr o<;>simp [hp]<;>omega
theorem WE (pr:CD→Bool) (fr:List CR) (ol:List CD):(FR pr fr ol).length+(EZ pr ol).length=fr.length+ol.length:=by
 unfold FR EZ
 rw [fP,fN]
 have:=SF pr ol
 omega
theorem AnS (a b:Int):Cd Tryz.prog 253 [.agg [i64 a,i64 b]] (.agg [i64 a,i64 b]) []:=by
 refine ZEN Tryz.func253 Tryz.ntmps253 ?_
 repeat' (first|refine A0 ?_|refine ZK2 (fun hc=>?_) (fun hc=>?_)|fail)
 all_goals ((first|exact Fin.q Tryz.results253 (.cons (.agg rfl rfl i3_ rfl inf233 (us:=[_,_]) rfl rfl) .nil) []|refine Fin.q Tryz.results253 (.cons (.agg rfl rfl i3_ rfl inf233 (us:=[_,_]) rfl rfl) .nil) [] (hr:=(.t ?_))|refine Fin.mkv (rs:=_) Tryz.results253 (.cons (.agg rfl rfl i3_ rfl inf233 (us:=[_,_]) rfl rfl) .nil) [] (by decide) rfl ?_ ?_ ?_<;>repeat' (first|exact ZE1|refine ZE2 ?_ ?_|refine ZE3 ?_|exact ZE4|fail)))
structure BS where
 q:Nat
 F:List CR
 G:List CD
 kf:Nat
 kg:Nat
 nf:Nat
 ng:Nat
theorem AdD (f:FuncId) (fi cap:List AV) (pr:CD→Bool) (hg : ∀o:CD,CV Tryz.prog (.fn (.func f) fi cap) [.agg ((tOd o).map .t)] (.t (.v (.bool (pr o)))) []) (hup:upB (CM 6) (.fn (.func f) fi cap) = .fn (.func f) fi cap)
  (i t sp:Int) (fr:List CR) (ol:List CD) (hs:fr.length+ol.length≤5864062014805) :
  Cd Tryz.prog 225 [.agg [i64 i,i64 t,.ln (fr.map tSl),.ln (ol.map tOd),i64 sp],.fn (.func f) fi cap] (.tup [.agg [i64 i,i64 t,.sl 0 0 (FR pr fr ol).length,.sl 1 0 (EZ pr ol).length,i64 sp],i64 ((ol.length:Int)-(EZ pr ol).length)])
   [.row 0 233 2 ((FR pr fr ol).map tSl),.row 0 236 3 ((EZ pr ol).map tOd)]:=by
 have h1:(ol.map tOd).length=ol.length:=fN _
 have hpl:=fun q=>WE pr fr (ol.take q)
 refine ZEN Tryz.func225 Tryz.ntmps225 ?_
 repeat' (first|(refine ZAL ?_;first|(refine kL 4458 rfl ?_;first|(refine uK (pcopied_c i t sp fr ol ?zq0 ?zq1) ?_;(case zq0=>omega);(case zq1=>omega)))|refine Ge ?_|(refine kL 1583 rfl ?_;first|refine A_lit rfl rfl 49 1 _ rfl ud49 inf236 (.cons rfl .nil) (els:=[[_,_,_]]) rfl bF rfl (gB rfl) (ZbT rfl) (ZbT rfl) (.push qL qN) ?_)|refine uA ?_)|(refine ZRG ?_;first|(refine kR 1551 rfl ?_;first|refine R_lit rfl rfl 48 1 _ rfl ud48 inf233 (.cons rfl .nil) (els:=[[_,_]]) rfl bF rfl (gB rfl) (ZbT rfl) (ZbT rfl) qh qN ?_)|refine uR ?_)|refine uC ?_|refine Eh ?_|refine ZK2 (fun hc=>?_) (fun hc=>?_)|fail)
 refine AW.wk (Wk.ownB 4 3 rfl rfl 236 3 (.push rfl rfl) rfl) ?_
 refine AW.loopP (fun (x:BS)=>x.q≤ol.length∧x.F=FR pr fr (ol.take x.q)∧x.G=EZ pr (ol.take x.q)∧x.nf=x.F.length∧x.ng=x.G.length) (fun (x:BS)=>(pu (pu (pu (pu (pu (pu (pu (pu (fun _=>.any) 1 (.fn (.func f) fi cap)) 2 (.ptr 0 0)) 4 (.ptr 1 0)) 5 (i64 0)) 6 (.ptr 4 0)) 13 (.ln (ol.map tOd))) 14 (i64 (ol.map tOd).length)) 15 (i64 x.q))) (fun (x:BS)=>[.box 51 [i64 i,i64 t,.ln (fr.map tSl),.ln (ol.map tOd),i64 sp],.box 51 [i64 0,i64 0,.nl,.nl,i64 0],.row x.kf 233 2 (x.F.map tSl),.row 0 236 3 (ol.map tOd),.box 51 [i64 i,i64 t,.sl 2 x.kf x.nf,.sl 5 x.kg x.ng,i64 sp],.row x.kg 236 3 (x.G.map tOd)]) (fun (x:BS)=>ol.length-x.q) (⟨0,fr,[],0,0,fr.length,0⟩) ?_ ?_ ?_
 ·exact ⟨fX _,by simp [FR],by simp [EZ],rfl,rfl⟩
 ·exact Wk.cq 6
 ·rintro ⟨q,F,G,kf,kg,nf,ng⟩ ⟨h2,h3,h4,h5,h6⟩
  dsimp only at h2 h3 h4 h5 h6 ⊢
  subst h5 h6
  have h7:=hpl q
  rw [←h3, ←h4,fY,kQ h2] at h7
  have h8:(F.map tSl).length=F.length:=fN _
  have h9:(G.map tOd).length=G.length:=fN _
  by_cases hq:q<ol.length
  ·obtain ⟨o,ho⟩ : ∃o,ol[q]? = some o:=⟨_,ZgE hq⟩
   repeat' (first|(refine ZAL ?_;first|(refine kL 1635 rfl ?_;first|refine A_store_rp rfl rfl 51 _ _ rfl inf51 (by decide) rfl rfl aI rfl rfl rfl (ZbT rfl) bJ qN ?_)|(refine kL 1571 rfl ?_;first|refine A_store_rp rfl rfl 49 _ _ rfl r8_ (by decide) rfl rfl aI rfl rfl rfl (ZbT rfl) bJ qN ?_)|(refine kL 12 rfl ?_;first|refine CN rfl rfl _ _ 49 rfl ud49 inf236 rfl rfl rfl cY aA qB qB fD qN qS ?_|refine BD rfl rfl _ _ 49 rfl ud49 inf236 rfl rfl aA qB qB cJ (.push qL qN) qS ?_|refine A_append_nlsub rfl rfl _ _ 49 rfl ud49 inf236 rfl rfl rfl rfl aJ qB qB iU.symm (.push qL qN) ?_)|(refine kL 7555 rfl ?_;first|refine A_store_rp rfl rfl 236 _ _ rfl inf236 (by decide) rfl rfl aI rfl rfl rfl (ZbT rfl) bJ qN ?_)|(refine kL 1583 rfl ?_;first|refine A_lit rfl rfl 49 1 _ rfl ud49 inf236 (.cons rfl .nil) (els:=[[_,_,_]]) rfl cJ rfl (gB rfl) (ZbT rfl) (ZbT rfl) (.push qL qN) ?_)|refine uA ?_|refine uV (hg o) ?_)|(refine ZRG ?_;first|(refine kR 1551 rfl ?_;first|refine R_lit rfl rfl 48 1 _ rfl ud48 inf233 (.cons rfl .nil) (els:=[[_,_]]) rfl cJ rfl (gB rfl) (ZbT rfl) (ZbT rfl) qh qN ?_)|(refine kR 12 rfl ?_;first|refine R_append rfl rfl _ _ 48 rfl ud48 inf233 rfl rfl rfl cY aA qB qB fD qN qS ?_|refine CX rfl rfl _ _ 48 rfl ud48 inf233 rfl rfl aA qB qB cJ qh qN qS ?_)|(refine kR 1539 rfl ?_;first|refine R_store_rp rfl rfl 48 _ _ rfl r7_ (by decide) rfl rfl aI rfl rfl rfl (ZbT rfl) bJ qN ?_)|(refine kR 1635 rfl ?_;first|refine R_store_rp rfl rfl 51 _ _ rfl inf51 (by decide) rfl rfl aI rfl rfl rfl (ZbT rfl) bJ qN ?_)|refine uR ?_|refine AT (AnS _ _) ?_)|refine uC ?_|refine Eh ?_|refine ZK2 (fun hc=>?_) (fun hc=>?_)|fail)
   all_goals try exact ZE5
   ·refine ⟨⟨q+1,F++[osl o],G,kf+1,kg,F.length+1,G.length⟩,⟨by dsimp only;omega,by dsimp only;rw [SK ho,fR hc,h3],by dsimp only;rw [VU ho,fR hc,h4],by simp,rfl⟩,by dsimp only;omega,?_⟩
    exact Wk.cq 6
   ·refine ⟨⟨q+1,F,G++[o],kf,kg+1,F.length,G.length+1⟩,⟨by dsimp only;omega,by dsimp only;rw [SK ho,fT (by simp [hc]),h3],by dsimp only;rw [VU ho,fT (by simp [hc]),h4],rfl,by simp⟩,by dsimp only;omega,?_⟩
    exact Wk.cq 6
  ·have e:q=ol.length:=by omega
   subst e
   rw [jQ] at h3 h4
   subst h3 h4
   repeat' (first|(refine ZAL ?_;first|(refine kL 1635 rfl ?_;first|refine A_store_rp rfl rfl 51 _ _ rfl inf51 (by decide) rfl rfl aI rfl rfl rfl (ZbT rfl) bM qN ?_)|(refine kL 1571 rfl ?_;first|refine A_store_rp rfl rfl 49 _ _ rfl r8_ (by decide) rfl rfl aI rfl rfl rfl (ZbT rfl) bM qN ?_)|(refine kL 12 rfl ?_;first|refine CN rfl rfl _ _ 49 rfl ud49 inf236 rfl rfl rfl cY aA qB qB fF qN qS ?_|refine BD rfl rfl _ _ 49 rfl ud49 inf236 rfl rfl aA qB qB dJ (.push qL qN) qS ?_|refine A_append_nlsub rfl rfl _ _ 49 rfl ud49 inf236 rfl rfl rfl rfl aJ qB qB iU.symm (.push qL qN) ?_)|(refine kL 7555 rfl ?_;first|refine A_store_rp rfl rfl 236 _ _ rfl inf236 (by decide) rfl rfl aI rfl rfl rfl (ZbT rfl) bM qN ?_)|(refine kL 1583 rfl ?_;first|refine A_lit rfl rfl 49 1 _ rfl ud49 inf236 (.cons rfl .nil) (els:=[[_,_,_]]) rfl dJ rfl (gB rfl) (ZbT rfl) (ZbT rfl) (.push qL qN) ?_)|refine uA ?_)|(refine ZRG ?_;first|(refine kR 1551 rfl ?_;first|refine R_lit rfl rfl 48 1 _ rfl ud48 inf233 (.cons rfl .nil) (els:=[[_,_]]) rfl dJ rfl (gB rfl) (ZbT rfl) (ZbT rfl) qh qN ?_)|(refine kR 12 rfl ?_;first|refine R_append rfl rfl _ _ 48 rfl ud48 inf233 rfl rfl rfl cY aA qB qB fF qN qS ?_|refine CX rfl rfl _ _ 48 rfl ud48 inf233 rfl rfl aA qB qB dJ qh qN qS ?_)|(refine kR 1539 rfl ?_;first|refine R_store_rp rfl rfl 48 _ _ rfl r7_ (by decide) rfl rfl aI rfl rfl rfl (ZbT rfl) bM qN ?_)|(refine kR 1635 rfl ?_;first|refine R_store_rp rfl rfl 51 _ _ rfl inf51 (by decide) rfl rfl aI rfl rfl rfl (ZbT rfl) bM qN ?_)|refine uR ?_)|refine uC ?_|refine Eh ?_|refine ZK2 (fun hc=>?_) (fun hc=>?_)|fail)
   all_goals first|(exfalso;omega)|((first|exact Fin.q Tryz.results225 (.cons (.agg rfl rfl ud51 rfl inf51 (us:=[_,_,_,_,_]) rfl rfl) (.cons (.tmp rfl) .nil)) [2,5]|refine Fin.q Tryz.results225 (.cons (.agg rfl rfl ud51 rfl inf51 (us:=[_,_,_,_,_]) rfl rfl) (.cons (.tmp rfl) .nil)) [2,5] (hr:=(.tupL (.cons (.t ?_) (.cons (.t ?_) .nil))))|refine Fin.mkv (rs:=_) Tryz.results225 (.cons (.agg rfl rfl ud51 rfl inf51 (us:=[_,_,_,_,_]) rfl rfl) (.cons (.tmp rfl) .nil)) [2,5] (by decide) rfl ?_ ?_ ?_<;>repeat' (first|exact ZE1|refine ZE2 ?_ ?_|refine ZE3 ?_|exact ZE4|fail)))
   all_goals simp
def AhI (stamp g:Int):Bool:=decide (0≤stamp∧2≤g∧stamp≤g-2)
theorem AtX (s g:Int) (hg:g≤9223372036854775807):Cd Tryz.prog 227 [i64 s,i64 g] (bo (AhI s g)) []:=by
 refine ZEN Tryz.func227 Tryz.ntmps227 ?_
 repeat' (first|refine A0 ?_|refine uS 7 (fun hb=>?_) (fun hb=>?_)|refine uS 11 (fun hb=>?_) (fun hb=>?_)|refine ZK2 (fun hc=>?_) (fun hc=>?_)|fail)
 all_goals ((first|exact A6 Tryz.results227|refine A5 Tryz.results227 ?_|refine A8 Tryz.results227 ?_ ?_ ?_<;>repeat' (first|exact ZE1|refine ZE2 ?_ ?_|refine ZE3 ?_|exact ZE4|fail)))
 all_goals (unfold AhI;first|rfl|(rw [fW (by omega)])|(rw [fZ (by omega)])|(congr 2;rw [kJ];omega))
def prE (g:Int) (o:CD):Bool:=AhI o.stamp g
theorem ArN (g:Int) (hg:g≤9223372036854775807) (o:CD):Cd Tryz.prog 226 [.agg ((tOd o).map .t),.lp [i64 g]] (bo (prE g o)) []:=by
 obtain ⟨⟨a,b⟩,s⟩:=o
 refine ZEN Tryz.func226 Tryz.ntmps226 ?_
 repeat' (first|(refine ZAL ?_;first|refine uA ?_|refine uK (AtX s g hg) ?_)|refine uC ?_|refine ZK2 (fun hc=>?_) (fun hc=>?_)|fail)
 all_goals ((first|exact A6 Tryz.results226|refine A5 Tryz.results226 ?_|refine A8 Tryz.results226 ?_ ?_ ?_<;>repeat' (first|exact ZE1|refine ZE2 ?_ ?_|refine ZE3 ?_|exact ZE4|fail)))
theorem AxH (g:Int) (hg:g≤9223372036854775807) (i t sp:Int) (fr:List CR) (ol:List CD) (hs:fr.length+ol.length≤5864062014805) :
  Cd Tryz.prog 187 [.agg [i64 i,i64 t,.ln (fr.map tSl),.ln (ol.map tOd),i64 sp],i64 g] (.tup [.agg [i64 i,i64 t,.sl 0 0 (FR (prE g) fr ol).length,.sl 1 0 (EZ (prE g) ol).length,i64 sp],i64 ((ol.length:Int)-(EZ (prE g) ol).length)])
   [.row 0 233 2 ((FR (prE g) fr ol).map tSl),.row 0 236 3 ((EZ (prE g) ol).map tOd)]:=by
 have c1:=AdD 226 [] [.lp [i64 g]] (prE g) (fun o=>⟨_,_,[],[.lp [i64 g]],rfl,Tryz.func226,by kernel_rfl,by kernel_rfl,fun _=>.nil,fun _=>.cons (.lpL (.cons (.t _) .nil)) .nil,ArN g hg o⟩) rfl i t sp fr ol hs
 refine ZEN Tryz.func187 Tryz.ntmps187 ?_
 repeat' (first|refine A7 ?_|refine ZK2 (fun hc=>?_) (fun hc=>?_)|fail)
 all_goals ((first|exact Fin.q Tryz.results187 (.cons (.agg rfl rfl ud51 rfl inf51 (us:=[_,_,_,_,_]) rfl rfl) (.cons (.tmp rfl) .nil)) [3,4]|refine Gt Tryz.results187 ?_ ?_|refine Gu Tryz.results187 ?_ ?_ ?_<;>repeat' (first|exact ZE1|refine ZE2 ?_ ?_|refine ZE3 ?_|exact ZE4|fail)))
end
def ixI:List Int→Int→Int
 | [],_ => -1
 |a::l,x=>if a=x then 0 else if ixI l x<0 then -1 else ixI l x+1
theorem m_ : ∀(l:List Int) (x:Int) (j:Nat),(∀q,q<j→l.getD q 0≠x)→l[j]? = some x→ixI l x=j
 | [],_,_,_,h=>by simp at h
 |a::l,x,0,_,h=>by simp at h;simp [ixI,h]
 |a::l,x,j+1,h0,h=>by
  have h1:=m_ l x j (fun q hq=>by have:=h0 (q+1) (by omega);simpa using this) fH
  have h2:a≠x:=by have:=h0 0 (by omega);simpa using this
  unfold ixI
  rw [fT h2,fT (by omega),h1];rfl
theorem ST : ∀(l:List Int) (x:Int),(∀q,q<l.length→l.getD q 0≠x)→ixI l x = -1
 | [],_,_=>rfl
 |a::l,x,h0=>by
  have h1:=ST l x (fun q hq=>by have:=h0 (q+1) bA;simpa using this)
  have h2:a≠x:=by have:=h0 0 (by simp);simpa using this
  unfold ixI
  rw [fT h2,fR (by omega)]
theorem XY : ∀(l:List Int) (x:Int),0≤ixI l x↔x∈l
 | [],x=>by simp [ixI]
 | a::l,x=>by
  have:=XY l x
  unfold ixI
  by_cases h:a=x
  ·simp [h]
  ·rw [fT h]
   have h':x≠a:=fun e=>h e.symm
   simp only [iH,h',false_or]
   by_cases h2:ixI l x<0
   ·rw [fR h2, ←this];omega
   ·rw [fT h2, ←this];omega
section
attribute [local irreducible] AL AW RG Fin C Cd Cio AI AF AO
theorem AfB (l:List Int) (x:Int) (hl:l.length≤1152921504606846976):Cd Tryz.prog 254 [.ln (l.map tU),u64 x] (i64 (ixI l x)) []:=by
 have h1:(l.map tU).length=l.length:=fN _
 refine ZEN Tryz.func254 Tryz.ntmps254 ?_
 repeat' (first|refine A0 ?_|refine ZK2 (fun hc=>?_) (fun hc=>?_)|fail)
 refine AW.loopP (fun (j:Nat)=>j≤l.length ∧ ∀q,q<j→l.getD q 0≠x) (fun (j:Nat)=>(pu (pu (pu (pu (fun _=>.any) 0 (.ln (l.map tU))) 1 (u64 x)) 7 (i64 (l.map tU).length)) 8 (i64 j))) (fun (j:Nat)=>[]) (fun (j:Nat)=>l.length-j) (0) ?_ ?_ ?_
 ·exact ⟨fX _,fun q hq=>by omega⟩
 ·exact Wk.cq 0
 ·rintro j ⟨h2,h3⟩
  by_cases hj:j<l.length
  ·obtain ⟨a,ha⟩ : ∃a,l[j]? = some a:=⟨_,ZgE hj⟩
   repeat' (first|refine A0 ?_|refine ZK2 (fun hc=>?_) (fun hc=>?_)|fail)
   all_goals try exact ZE5
   ·(first|exact A6 Tryz.results254|refine A5 Tryz.results254 ?_|refine A8 Tryz.results254 ?_ ?_ ?_<;>repeat' (first|exact ZE1|refine ZE2 ?_ ?_|refine ZE3 ?_|exact ZE4|fail))
    rw [m_ l x j h3 (by rw [ha,hc])]
   ·refine ⟨j+1,⟨by omega,fun q hq=>?_⟩,by omega,?_⟩
    ·by_cases e:q=j
     ·subst e;rw [fQ,ha];exact fun e=>hc e.symm
     ·exact h3 q (by omega)
    ·exact Wk.cq 0
  ·repeat' (first|refine A0 ?_|refine ZK2 (fun hc=>?_) (fun hc=>?_)|fail)
   all_goals first|(exfalso;omega)|((first|exact A6 Tryz.results254|refine A5 Tryz.results254 ?_|refine A8 Tryz.results254 ?_ ?_ ?_<;>repeat' (first|exact ZE1|refine ZE2 ?_ ?_|refine ZE3 ?_|exact ZE4|fail)))
   rw [ST l x fun q hq=>h3 q (by omega)]
theorem a6_ (l:List Int) (x:Int) (hl:l.length≤1152921504606846976):Cd Tryz.prog 230 [.ln (l.map tU),u64 x] (bo (decide (x∈l))) []:=by
 have h1:=XY l x
 refine ZEN Tryz.func230 Tryz.ntmps230 ?_
 repeat' (first|(refine ZAL ?_;first|refine uA ?_|refine uK (AfB l x hl) ?_)|refine uC ?_|refine ZK2 (fun hc=>?_) (fun hc=>?_)|fail)
 all_goals ((first|exact A6 Tryz.results230|refine A5 Tryz.results230 ?_|refine A8 Tryz.results230 ?_ ?_ ?_<;>repeat' (first|exact ZE1|refine ZE2 ?_ ?_|refine ZE3 ?_|exact ZE4|fail)))
 all_goals (congr 2;rw [kJ];omega)
def prS (l:List Int) (o:CD):Bool := !decide (word o.ref.index o.ref.tag∈l)
theorem ArO (l:List Int) (hl:l.length≤1152921504606846976) (o:CD):Cd Tryz.prog 229 [.agg ((tOd o).map .t),.lp [.ln (l.map tU)]] (bo (prS l o)) []:=by
 obtain ⟨⟨a,b⟩,s⟩:=o
 refine ZEN Tryz.func229 Tryz.ntmps229 ?_
 repeat' (first|refine uA ?_|(refine ZRG ?_;first|refine uR ?_|refine AT (LW a b) ?_|refine AT (a6_ l (word a b) hl) ?_)|refine uC ?_|refine AW.drawU (id:=1) mixed 0 qR ?_|refine ZK2 (fun hc=>?_) (fun hc=>?_)|fail)
 all_goals ((first|exact A6 Tryz.results229|refine A5 Tryz.results229 ?_|refine A8 Tryz.results229 ?_ ?_ ?_<;>repeat' (first|exact ZE1|refine ZE2 ?_ ?_|refine ZE3 ?_|exact ZE4|fail)))
theorem AxI (l:List Int) (hl:l.length≤1152921504606846976) (i t sp:Int) (fr:List CR) (ol:List CD) (hs:fr.length+ol.length≤5864062014805) :
  Cd Tryz.prog 191 [.agg [i64 i,i64 t,.ln (fr.map tSl),.ln (ol.map tOd),i64 sp],.ln (l.map tU)] (.tup [.agg [i64 i,i64 t,.sl 0 0 (FR (prS l) fr ol).length,.sl 1 0 (EZ (prS l) ol).length,i64 sp],i64 ((ol.length:Int)-(EZ (prS l) ol).length)])
   [.row 0 233 2 ((FR (prS l) fr ol).map tSl),.row 0 236 3 ((EZ (prS l) ol).map tOd)]:=by
 have c1:=AdD 229 [] [.lp [.ln (l.map tU)]] (prS l) (fun o=>⟨_,_,[],[.lp [.ln (l.map tU)]],rfl,Tryz.func229,by kernel_rfl,by kernel_rfl,fun _=>.nil,fun _=>.cons (.lpL (.cons (.ln _) .nil)) .nil,ArO l hl o⟩) rfl i t sp fr ol hs
 refine ZEN Tryz.func191 Tryz.ntmps191 ?_
 repeat' (first|refine A7 ?_|refine ZK2 (fun hc=>?_) (fun hc=>?_)|fail)
 all_goals ((first|exact Fin.q Tryz.results191 (.cons (.agg rfl rfl ud51 rfl inf51 (us:=[_,_,_,_,_]) rfl rfl) (.cons (.tmp rfl) .nil)) [3,4]|refine Gt Tryz.results191 ?_ ?_|refine Gu Tryz.results191 ?_ ?_ ?_<;>repeat' (first|exact ZE1|refine ZE2 ?_ ?_|refine ZE3 ?_|exact ZE4|fail)))
def rankR (r:Rst):Int:=if r.code=14 then 2*r.seq else 2*r.seq+1
theorem f4_ (r:Rst):Cd Tryz.prog 231 [aR r] (bo (decide (r.code≠14))) []:=by
 refine ZEN Tryz.func231 Tryz.ntmps231 ?_
 repeat' (first|refine A0 ?_|fail)
 all_goals exact A2 Tryz.results231
theorem u6_ (r:Rst) (h:0≤r.seq∧r.seq≤1048576):Cd Tryz.prog 218 [aR r] (i64 (rankR r)) []:=by
 have c1:=f4_ r
 unfold rankR
 by_cases k:r.code=14
 ·rw [fR k]
  rw [fZ (by simp [k])] at c1
  refine ZEN Tryz.func218 Tryz.ntmps218 ?_
  repeat' (first|refine A7 ?_|fail)
  all_goals exact A2 Tryz.results218
 ·rw [fT k]
  rw [fW k] at c1
  refine ZEN Tryz.func218 Tryz.ntmps218 ?_
  repeat' (first|refine A7 ?_|fail)
  all_goals exact A2 Tryz.results218
theorem AqF {w:Int} (h:0≤w∧w≤18446744073709551615):0≤(readR w).seq∧(readR w).seq≤1048576:=by unfold readR;dsimp only;omega
theorem WF (a b:Int) (ha:0≤a∧a≤18446744073709551615) (hb:0≤b∧b≤18446744073709551615):Cd Tryz.prog 178 [u64 a,u64 b] (bo (decide (rankR (readR a)<rankR (readR b)))) []:=by
 have c1:=GT a ha
 have c2:=GT b hb
 have c3:=u6_ (readR a) (AqF ha)
 have c4:=u6_ (readR b) (AqF hb)
 generalize readR a=x at *
 generalize readR b=y at *
 generalize rankR x=p at *
 generalize rankR y=q at *
 by_cases h:p<q
 ·rw [fW h]
  refine ZEN Tryz.func178 Tryz.ntmps178 ?_
  repeat' (first|refine Gw ?_|fail)
  all_goals exact A2 Tryz.results178
 ·rw [fZ h]
  refine ZEN Tryz.func178 Tryz.ntmps178 ?_
  repeat' (first|refine Gw ?_|fail)
  all_goals exact A2 Tryz.results178
theorem AvO {s:List Int} {p i:Nat} (h:p≤i):stC s p (i+1)=stC s p i:=by
 refine iO fun j=>?_
 by_cases hj:j<p
 ·rw [GX s hj,GX s hj]
  by_cases q:j<s.length
  ·rw [fR ⟨by omega,q⟩,fR ⟨by omega,q⟩]
  ·rw [fT (by omega),fT (by omega)]
 ·rw [gS eZ,gS eZ]
theorem AiM (s:List Int) (p:Nat):stC s p s.length=stC s p p:=by
 refine iO fun j=>?_
 by_cases hj:j<p
 ·rw [GX s hj,GX s hj]
  by_cases q:j<s.length
  ·rw [fR ⟨q,q⟩,fR ⟨hj,q⟩]
  ·rw [fT (by omega),fT (by omega)]
 ·rw [gS eZ,gS eZ]
theorem AeX (c:AB) (hs0:c.start.length≤1152921504606846976):Cd Tryz.prog 156 [aCf c] (.agg [i64 0,.sl 0 0 (plN c),.sl 1 0 (thN c),.sl 2 0 (thN c)]) [.row 0 101 5 ((stC c.start (plN c) (plN c)).map tCh),.row 0 167 4 ((List.replicate (thN c) (⟨false,0,0,[]⟩:AH)).map tWt),.row 0 53 4 ((List.replicate (thN c) (⟨0,0,0,0⟩:Rst)).map tR)]:=by
 have h1:(c.start.map tI).length=c.start.length:=fN _
 have hp:((plN c:Nat):Int)=max (min c.chans 8) 0:=by have:=AhJ c;omega
 have ht:((thN c:Nat):Int)=max (min c.threads 64) 0:=by have:=AiW c;omega
 have hp8:=(AhJ c).2
 have ht64:=(AiW c).2
 generalize plN c=p at *
 generalize thN c=th at *
 refine ZEN Tryz.func156 Tryz.ntmps156 ?_
 repeat' (first|(refine ZAL ?_;first|(refine kL 3235 rfl ?_;first|refine A_store_rp rfl rfl 101 _ _ rfl inf101 (by decide) rfl rfl aI rfl rfl rfl (ZbT rfl) bP qN ?_)|(refine kL 3107 rfl ?_;first|refine A_store_rp rfl rfl 97 _ _ rfl inf97 (by decide) rfl rfl aI rfl rfl rfl (ZbT rfl) bP qN ?_)|refine uA ?_)|(refine ZRG ?_;first|(refine kR 2992 rfl ?_;first|refine R_make rfl rfl 93 _ _ rfl ud93 inf101 rfl (zs:=[(.v (.int .i64 0)),(.v (.int .i64 0)),(.v (.bool false)),(.v (.bool false)),.lst []]) rfl rfl rfl p aK aK qB qB aL qh qN ?_|refine R_make rfl rfl 93 _ _ rfl ud93 inf101 rfl (zs:=[(.v (.int .i64 0)),(.v (.int .i64 0)),(.v (.bool false)),(.v (.bool false)),.lst []]) rfl rfl rfl th aK aK qB qB aL qh qN ?_|refine R_make rfl rfl 93 _ _ rfl ud93 inf101 rfl (zs:=[(.v (.int .i64 0)),(.v (.int .i64 0)),(.v (.bool false)),(.v (.bool false)),.lst []]) rfl rfl rfl _ aK aK qB qB aL qh qN ?_)|(refine kR 3024 rfl ?_;first|refine R_make rfl rfl 94 _ _ rfl ud94 inf167 rfl (zs:=[(.v (.bool false)),(.v (.int .i64 0)),(.v (.int .i64 0)),.lst []]) rfl rfl rfl p aK aK qB qB aL qh qN ?_|refine R_make rfl rfl 94 _ _ rfl ud94 inf167 rfl (zs:=[(.v (.bool false)),(.v (.int .i64 0)),(.v (.int .i64 0)),.lst []]) rfl rfl rfl th aK aK qB qB aL qh qN ?_|refine R_make rfl rfl 94 _ _ rfl ud94 inf167 rfl (zs:=[(.v (.bool false)),(.v (.int .i64 0)),(.v (.int .i64 0)),.lst []]) rfl rfl rfl _ aK aK qB qB aL qh qN ?_)|(refine kR 3056 rfl ?_;first|refine R_make rfl rfl 95 _ _ rfl ud95 inf53 rfl (zs:=[(.v (.int .i64 0)),(.v (.int .i64 0)),(.v (.int .i64 0)),(.v (.int .i64 0))]) rfl rfl rfl p aK aK qB qB aL qh qN ?_|refine R_make rfl rfl 95 _ _ rfl ud95 inf53 rfl (zs:=[(.v (.int .i64 0)),(.v (.int .i64 0)),(.v (.int .i64 0)),(.v (.int .i64 0))]) rfl rfl rfl th aK aK qB qB aL qh qN ?_|refine R_make rfl rfl 95 _ _ rfl ud95 inf53 rfl (zs:=[(.v (.int .i64 0)),(.v (.int .i64 0)),(.v (.int .i64 0)),(.v (.int .i64 0))]) rfl rfl rfl _ aK aK qB qB aL qh qN ?_)|(refine kR 3107 rfl ?_;first|refine R_store_rp rfl rfl 97 _ _ rfl inf97 (by decide) rfl rfl aI rfl rfl rfl (ZbT rfl) bP qN ?_)|refine uR ?_)|refine uC ?_|refine Es ?_|refine ZK2 (fun hc=>?_) (fun hc=>?_)|fail)
 all_goals try exact ZE5
 refine AW.loopP (fun (i:Nat)=>i≤c.start.length) (fun (i:Nat)=>(pu (pu (pu (pu (pu (pu (pu (fun _=>.any) 1 (.ptr 0 0)) 2 (.ptr 1 0)) 3 (i64 p)) 5 (.ptr 5 0)) 24 (.ln (c.start.map tI))) 25 (i64 (c.start.map tI).length)) 26 (i64 i))) (fun (i:Nat)=>[.box 24 [i64 c.kind,i64 c.threads,i64 c.chans,i64 c.cap,i64 c.nodes,i64 c.retire,i64 c.patience,i64 c.tags,i64 c.seqs,i64 c.gens,.ln (c.start.map tI)],.box 97 [i64 0,.nl,.nl,.nl],.row 0 101 5 ((stC c.start p i).map tCh),.row 0 167 4 ((List.replicate th (⟨false,0,0,[]⟩:AH)).map tWt),.row 0 53 4 ((List.replicate th (⟨0,0,0,0⟩:Rst)).map tR),.box 97 [i64 0,.sl 2 0 p,.sl 3 0 th,.sl 4 0 th]]) (fun (i:Nat)=>c.start.length-i) (0) ?_ ?_ ?_
 ·exact fX _
 ·rw [AiO,hp]
  exact Wk.cq 6
 ·intro i hi
  have hL:=stC_len c.start p i
  have hL2:((stC c.start p i).map tCh).length=p:=by rw [fN,hL]
  by_cases hc1:i<c.start.length
  ·obtain ⟨x,hx⟩ : ∃x,c.start[i]? = some x:=⟨_,ZgE hc1⟩
   by_cases hip:i<p
   ·have hg:(stC c.start p i)[i]? = some ⟨0,0,false,false,[]⟩:=by rw [GX _ hip,fT (by omega)]
    have hs:=AiN hip hx
    generalize stC c.start p i=L0 at *
    clear hp ht hs0
    repeat' (first|(refine ZAL ?_;first|(refine kL 3235 rfl ?_;first|refine A_store_rp rfl rfl 101 _ _ rfl inf101 (by decide) rfl rfl fM rfl rfl rfl (ZbT rfl) eQ qN ?_)|(refine kL 3107 rfl ?_;first|refine A_store_rp rfl rfl 97 _ _ rfl inf97 (by decide) rfl rfl fM rfl rfl rfl (ZbT rfl) eQ qN ?_)|refine uA ?_)|(refine ZRG ?_;first|(refine kR 2992 rfl ?_;first|refine R_make rfl rfl 93 _ _ rfl ud93 inf101 rfl (zs:=[(.v (.int .i64 0)),(.v (.int .i64 0)),(.v (.bool false)),(.v (.bool false)),.lst []]) rfl rfl rfl _ aK aK qB qB eP qh qN ?_)|(refine kR 3024 rfl ?_;first|refine R_make rfl rfl 94 _ _ rfl ud94 inf167 rfl (zs:=[(.v (.bool false)),(.v (.int .i64 0)),(.v (.int .i64 0)),.lst []]) rfl rfl rfl _ aK aK qB qB eP qh qN ?_)|(refine kR 3056 rfl ?_;first|refine R_make rfl rfl 95 _ _ rfl ud95 inf53 rfl (zs:=[(.v (.int .i64 0)),(.v (.int .i64 0)),(.v (.int .i64 0)),(.v (.int .i64 0))]) rfl rfl rfl _ aK aK qB qB eP qh qN ?_)|(refine kR 3107 rfl ?_;first|refine R_store_rp rfl rfl 97 _ _ rfl inf97 (by decide) rfl rfl fM rfl rfl rfl (ZbT rfl) eQ qN ?_)|refine uR ?_)|refine uC ?_|refine Es ?_|refine ZK2 (fun hc=>?_) (fun hc=>?_)|fail)
    all_goals try exact ZE5
    refine ⟨i+1,by omega,by omega,?_⟩
    rw [hs]
    exact Wk.cq 6
   ·have hs:stC c.start p (i+1)=stC c.start p i:=AvO (by omega)
    generalize stC c.start p i=L0 at *
    clear hp ht
    repeat' (first|refine H1 ?_|refine ZK2 (fun hc=>?_) (fun hc=>?_)|fail)
    all_goals try exact ZE5
    refine ⟨i+1,by omega,by omega,?_⟩
    rw [hs]
    exact Wk.cq 6
  ·have e:i=c.start.length:=by omega
   subst e
   rw [AiM]
   repeat' (first|refine H1 ?_|refine ZK2 (fun hc=>?_) (fun hc=>?_)|fail)
   all_goals first|(exfalso;omega)|(exact Fin.q Tryz.results156 (.cons (.agg rfl rfl ud97 rfl inf97 (us:=[_,_,_,_]) rfl rfl) .nil) [2,3,4])
end
theorem BbA (c:AB) (hs:c.start.length≤1152921504606846976):Cd Tryz.prog 156 [aCf c] (.agg [i64 (startH c).ticket,.t (.lst ((startH c).chans.map tCh)),.t (.lst ((startH c).waits.map tWt)),.t (.lst ((startH c).done.map tR))]) []:=by
 have h0:=AeX c hs
 have l:=PE c
 have e1:=l.c
 have e2:=l.w
 have e3:=l.d
 have hh:Cd Tryz.prog 156 [aCf c] (.agg [i64 (startH c).ticket,.sl 0 0 (startH c).chans.length,.sl 1 0 (startH c).waits.length,.sl 2 0 (startH c).done.length]) [.row 0 101 5 ((startH c).chans.map tCh),.row 0 167 4 ((startH c).waits.map tWt),.row 0 53 4 ((startH c).done.map tR)]:=by rw [e1,e2,e3];exact h0
 generalize startH c=g at *
 have hh':=Cd.frz1 hh 0 rfl aB rfl;have hh'':=Cd.frz1 hh' 1 rfl aB rfl;have hh''':=Cd.frz1 hh'' 2 rfl aB rfl;exact Cd.drop hh''' rfl
section
attribute [local irreducible] AL AW RG Fin C Cd Cio AI AF AO
def UW (c:AB) (h:AM) (i:Nat):List Int:=h.ticket::(h.chans.take i).flatMap (TO c.cap)
def MZ (c:AB) (h:AM) (i:Nat):List Int:=h.ticket::(h.chans.flatMap (TO c.cap)++(h.waits.take i).flatMap KA)
theorem AhP {c:AB} {h:AM} {i:Nat} (hi:i≤h.chans.length):(UW c h i).length=1+i*(c.cap.toNat+1):=by
 unfold UW;rw [gF,HQ _ fun x _=>NA _ x,fY];rw [show min i h.chans.length=i by omega];omega
theorem AhR {c:AB} {h:AM} {i:Nat} (hi:i≤h.waits.length):(MZ c h i).length=1+h.chans.length*(c.cap.toNat+1)+i*4:=by
 unfold MZ;rw [gF,fP,HQ _ fun x _=>NA _ x,HQ _ fun x _=>OU x,fY];rw [show min i h.waits.length=i by omega];omega
theorem AaZ {c:AB} {h:AM} {i:Nat} {a:AY} (ha:h.chans[i]? = some a):UW c h (i+1)=(UW c h i++[FT a])++CW a.buf c.cap.toNat:=by
 unfold UW;rw [iB,ha];simp [TO]
theorem AhO (c:AB) (h:AM):UW c h h.chans.length=MZ c h 0:=by unfold UW MZ;simp
theorem AbA {c:AB} {h:AM} {i:Nat} {a:AH} (ha:h.waits[i]? = some a):MZ c h (i+1)=(MZ c h i++[HS a])++CW (a.cases.map wordK) 3:=by
 unfold MZ;rw [iB,ha];simp [KA]
theorem AhQ {c:AB} {h:AM} (hf:DZ c h=true):MZ c h h.waits.length++h.done.map wordR=putH c h:=by unfold MZ putH;rw [fR hf];simp
theorem VI (l:List BF):List.take (4-1) (List.drop 1 (KX ⟨3,0,0,false,l⟩ 0))=CW (l.map wordK) 3:=by
 show List.take 3 (CW (l.map wordK) 3++[0])=_
 have:=lP (l₁:=CW (l.map wordK) 3) (l₂:=[(0:Int)])
 rwa [DA] at this
theorem n1_ (c:AB) (h:AM) (hs:c.start.length≤1152921504606846976) (hh:okH h):Cd Tryz.prog 155 [aCf c,aHl h] (.t (.lst ((putH c h).map tU))) []:=by
 have c1:=AkY c h hs hh
 have g1:(h.chans.map tCh).length=h.chans.length:=fN _
 have g2:(h.waits.map tWt).length=h.waits.length:=fN _
 cases hf:DZ c h
 ·rw [hf] at c1
  rw [show putH c h=[] by unfold putH;rw [hf];rfl]
  refine ZEN Tryz.func155 Tryz.ntmps155 ?_
  repeat' (first|(refine ZAL ?_;first|refine Ed ?_|refine Av ?_|refine Ae ?_|refine uA ?_|refine uK (c1) ?_)|(refine ZRG ?_;first|refine Af ?_|refine Bz ?_|refine uR ?_)|refine uC ?_|refine De ?_|refine ZK2 (fun hc=>?_) (fun hc=>?_)|fail)
  all_goals exact A2 Tryz.results155
 ·rw [hf] at c1
  obtain ⟨h0,h1,h2,h3,h4,⟨h5,h6⟩,h7,h8⟩:=DM.1 hf
  have hsh:=AJ h0
  have hb:=hsh.h3 h1
  have ht1:=hsh.t1
  have hcap:c.cap=(c.cap.toNat:Int):=by omega
  have hmul : ∀i,i≤h.chans.length→i*(c.cap.toNat+1)≤72:=fun i hi=>jA (Nat.mul_le_mul (show i≤8 by omega) (show c.cap.toNat+1≤9 by omega)) (by decide)
  rw [←AhQ hf]
  refine ZEN Tryz.func155 Tryz.ntmps155 ?_
  repeat' (first|(refine ZAL ?_;first|refine Bs ?_|refine Ae ?_|refine uA ?_|refine uK (c1) ?_)|(refine ZRG ?_;first|refine Df ?_|refine Bz ?_|refine uR ?_)|refine uC ?_|refine De ?_|refine ZK2 (fun hc=>?_) (fun hc=>?_)|fail)
  all_goals try exact ZE5
  refine AW.loopP (fun (x:Nat × Nat × Nat)=>x.1≤h.chans.length∧x.2.2=(UW c h x.1).length) (fun (x:Nat × Nat × Nat)=>(pu (pu (pu (pu (pu (pu (fun _=>.any) 2 (.ptr 0 0)) 3 (.ptr 1 0)) 5 (.sl 2 x.2.1 x.2.2)) 20 (.ln (h.chans.map tCh))) 21 (i64 (h.chans.map tCh).length)) 22 (i64 x.1))) (fun (x:Nat × Nat × Nat)=>[.box 24 [i64 c.kind,i64 c.threads,i64 c.chans,i64 c.cap,i64 c.nodes,i64 c.retire,i64 c.patience,i64 c.tags,i64 c.seqs,i64 c.gens,.ln (c.start.map tI)],.box 97 [i64 h.ticket,.ln (h.chans.map tCh),.ln (h.waits.map tWt),.ln (h.done.map tR)],.row x.2.1 46 1 ((UW c h x.1).map tU)]) (fun (x:Nat × Nat × Nat)=>h.chans.length-x.1) ((0,0,1)) ?_ ?_ ?_
  ·exact ⟨fX _,rfl⟩
  ·exact Wk.cq 3
  ·rintro ⟨i,k,m⟩ ⟨l2,l3⟩
   dsimp only at l2 l3 ⊢
   have hL:=AhP (c:=c) l2
   have hM:=hmul i l2
   by_cases hi:i<h.chans.length
   ·obtain ⟨a,ha⟩ : ∃a,h.chans[i]? = some a:=⟨_,ZgE hi⟩
    have hOK:=h7 a (fO ha)
    have hO:=BE.1 hOK
    have cH:=AsD a c.cap (by omega) hOK
    have cR:=AeD a.buf c.cap c.cap.toNat (k+1) (m+1) (UW c h i++[FT a]) hcap bA hO.2.2.1.2 (by omega) bA
    have hs:=AaZ (c:=c) ha
    repeat' (first|(refine ZAL ?_;first|refine Bs ?_|refine Ae ?_|refine uA ?_)|(refine ZRG ?_;first|refine Df ?_|refine Bz ?_|refine uR ?_|refine AT (cH) ?_|refine uJ [2] (cR) ?_)|refine uC ?_|(first|refine AW.drawU (id:=7) mixed 2 qR ?_|refine AW.drawU (id:=12) mixed 2 qR ?_)|refine ZK2 (fun hc=>?_) (fun hc=>?_)|fail)
    all_goals try exact ZE5
    refine ⟨(i+1,k+1+c.cap.toNat,m+1+c.cap.toNat),⟨by dsimp only;omega,by dsimp only;rw [hs];simp [DA];omega⟩,by dsimp only;omega,?_⟩
    rw [hs]
    exact Wk.cq 3
   ·obtain rfl:i=h.chans.length:=by omega
    rw [AhO] at l3 ⊢
    repeat' (first|(refine ZAL ?_;first|refine Av ?_|refine Ae ?_|refine uA ?_)|(refine ZRG ?_;first|refine Af ?_|refine Bz ?_|refine uR ?_)|refine uC ?_|refine De ?_|refine ZK2 (fun hc=>?_) (fun hc=>?_)|fail)
    all_goals try exact ZE5
    refine AW.loopP (fun (x:Nat × Nat × Nat)=>x.1≤h.waits.length∧x.2.2=(MZ c h x.1).length) (fun (x:Nat × Nat × Nat)=>(pu (pu (pu (pu (pu (pu (fun _=>.any) 2 (.ptr 0 0)) 3 (.ptr 1 0)) 5 (.sl 2 x.2.1 x.2.2)) 38 (.ln (h.waits.map tWt))) 39 (i64 (h.waits.map tWt).length)) 40 (i64 x.1))) (fun (x:Nat × Nat × Nat)=>[.box 24 [i64 c.kind,i64 c.threads,i64 c.chans,i64 c.cap,i64 c.nodes,i64 c.retire,i64 c.patience,i64 c.tags,i64 c.seqs,i64 c.gens,.ln (c.start.map tI)],.box 97 [i64 h.ticket,.ln (h.chans.map tCh),.ln (h.waits.map tWt),.ln (h.done.map tR)],.row x.2.1 46 1 ((MZ c h x.1).map tU)]) (fun (x:Nat × Nat × Nat)=>h.waits.length-x.1) ((0,k,m)) ?_ ?_ ?_
    ·exact ⟨fX _,l3⟩
    ·exact Wk.cq 3
    ·rintro ⟨i,k,m⟩ ⟨l2,l3⟩
     dsimp only at l2 l3 ⊢
     have hL:=AhR (c:=c) l2
     by_cases hi:i<h.waits.length
     ·obtain ⟨a,ha⟩ : ∃a,h.waits[i]? = some a:=⟨_,ZgE hi⟩
      have hOK:=h8 a (fO ha)
      obtain ⟨q1,q2,q3,q4⟩:=FL hOK
      have g3:(a.cases.map tCs).length=a.cases.length:=fN _
      have hq:BR ⟨3,0,0,false,a.cases⟩=true:=by rw [b3_,fW q3,iI.2 q4];rfl
      have cC:=u2_ ⟨3,0,0,false,a.cases⟩ 0 hq rfl (by decide)
      have hbt:=IK a.on
      have cFl:=l1_ a.on
      have hw:HS a=JK a.on+((a.cases.map tCs).length:Int)*2+a.seq*16+a.ticket*4294967296:=by unfold HS;omega
      have hs:=AbA (c:=c) ha
      rw [←VI,hw] at hs
      have hl3:(List.take (4-1) (List.drop 1 (KX ⟨3,0,0,false,a.cases⟩ 0))).length=3:=by rw [VI,DA]
      have hL1:(MZ c h i++[JK a.on+((a.cases.map tCs).length:Int)*2+a.seq*16+a.ticket*4294967296]).length=(MZ c h i).length+1:=by simp
      have hlc:(KX ⟨3,0,0,false,a.cases⟩ 0).length=5:=by simp [KX,DA]
      have hlt:((KX ⟨3,0,0,false,a.cases⟩ 0).map tU).length=5:=by rw [fN,hlc]
      repeat' (first|(refine ZAL ?_;first|refine Bs ?_|refine Ae ?_|refine uA ?_|refine uK (cC) ?_)|(refine ZRG ?_;first|refine Df ?_|refine Bz ?_|refine uR ?_|refine AT (cFl) ?_)|refine uC ?_|(first|refine AW.drawU (id:=7) mixed 2 qR ?_|refine AW.drawU (id:=12) mixed 2 qR ?_)|refine ZK2 (fun hc=>?_) (fun hc=>?_)|fail)
      all_goals try exact ZE5
      refine ⟨(i+1,k+1+1,m+1+(List.take (4-1) (List.drop 1 (KX ⟨3,0,0,false,a.cases⟩ 0))).length),⟨by dsimp only;omega,by dsimp only;rw [hs];simp;omega⟩,by dsimp only;omega,?_⟩
      rw [hs]
      exact Wk.cq 3
     ·obtain rfl:i=h.waits.length:=by omega
      have cR:=SA h.done k m (MZ c h h.waits.length) l3 (by omega) (by have:=hmul _ (fV _);omega)
      repeat' (first|(refine ZAL ?_;first|(refine kL 1 rfl ?_;first|((first|refine A_as (d:=4) rfl rfl rfl rfl ?_|refine A_move (d:=4) rfl rfl _ (.inr rfl) (y:=.sl _ _ _) rfl ?_|refine A_move (d:=4) rfl rfl _ (.inr rfl) (y:=.nl) rfl ?_|refine A_move (d:=4) rfl rfl _ (.inr rfl) (y:=.ptr _ _) rfl ?_|refine A_move (d:=4) rfl rfl _ (.inr rfl) (y:=.ln _) rfl ?_|refine A_move (d:=4) rfl rfl _ (.inr rfl) (y:=.lp _) rfl ?_|refine A_move (d:=4) rfl rfl _ (.inr rfl) (y:=.fn _ _ _) rfl ?_|refine A_move (d:=4) rfl rfl _ (.inr rfl) (y:=.sub _ _ _ _) rfl ?_|refine A_move (d:=4) rfl rfl _ (.inr rfl) (y:=.rp _ _ _ _) rfl ?_|refine A_move (d:=4) rfl rfl _ (.inr rfl) (y:=.agg _) rfl ?_|refine A_move (d:=4) rfl rfl _ (.inr rfl) (y:=.tup _) rfl ?_|refine A_move (d:=4) rfl rfl _ (.inr rfl) (y:=.mv _) rfl ?_|refine A_move (d:=4) rfl rfl _ (.inr rfl) (y:=.cl _) rfl ?_);(try refine uf 2 4 ?_)))|refine Av ?_|refine Ae ?_|refine uA ?_|refine uI [2] (cR) ?_)|(refine ZRG ?_;first|refine Af ?_|refine Bz ?_|refine uR ?_)|refine uC ?_|refine De ?_|refine ZK2 (fun hc=>?_) (fun hc=>?_)|fail)
      all_goals exact A2 Tryz.results155
def f1_ (v:Int):List Int:=[v]
theorem n2_ (c:AB) (x:CO) (hs:c.start.length≤1152921504606846976) (k1:x.list.length≤1152921504606846976) (k2:x.done.length≤1152921504606846976):Cd Tryz.prog 157 [aCf c,aCl x] (.t (.lst ((putX c x).map tU))) []:=by
 have c1:=AkZ c x hs k1 k2
 have g1:(x.list.map tI).length=x.list.length:=fN _
 cases hf:EB c x
 ·rw [hf] at c1
  rw [show putX c x=[] by unfold putX;rw [hf];rfl]
  refine ZEN Tryz.func157 Tryz.ntmps157 ?_
  repeat' (first|(refine ZAL ?_;first|refine Ed ?_|refine uA ?_|refine uK (c1) ?_)|(refine ZRG ?_;first|refine Af ?_|refine uR ?_)|refine uC ?_|refine AW.drawU (id:=3) mixed 5 qR ?_|refine ZK2 (fun hc=>?_) (fun hc=>?_)|fail)
  all_goals exact A2 Tryz.results157
 ·rw [hf] at c1
  obtain ⟨h0,h1,h2,⟨h3,h4⟩,h5,h6⟩:=DS.1 hf
  have hsh:=AJ h0
  have hb:=hsh.h1 h1
  have ht1:=hsh.t1
  have hcap:c.cap=(c.cap.toNat:Int):=by omega
  have cR:=AeD x.list c.cap c.cap.toNat 0 1 (f1_ ((x.list.map tI).length:Int)) hcap rfl h4 (by omega) (by simp [f1_];omega)
  have cD:=SA x.done c.cap.toNat (1+c.cap.toNat) ((f1_ ((x.list.map tI).length:Int))++CW x.list c.cap.toNat) (by simp [DA,f1_];omega) (by omega) (by simp [DA,f1_];omega)
  have e:putX c x=((f1_ ((x.list.map tI).length:Int))++CW x.list c.cap.toNat)++x.done.map wordR:=by unfold putX f1_;rw [fR hf,g1];simp
  have h0:Cd Tryz.prog 157 [aCf c,aCl x] (.sl 0 0 (1+c.cap.toNat+x.done.length)) [.row 0 46 1 ((putX c x).map tU)]:=by
   rw [e]
   refine ZEN Tryz.func157 Tryz.ntmps157 ?_
   repeat' (first|(refine ZAL ?_;first|refine uA ?_|refine uK (c1) ?_)|(refine ZRG ?_;first|refine Df ?_|refine uR ?_|refine uJ [2] (cR) ?_|refine uJ [2] (cD) ?_)|refine uC ?_|refine AW.drawU (id:=3) mixed 1 qR ?_|refine ZK2 (fun hc=>?_) (fun hc=>?_)|fail)
   all_goals first|(exfalso;omega)|(exact Fin.q Tryz.results157 (.cons (.tmp rfl) .nil) [2])
  have hln:(putX c x).length=1+c.cap.toNat+x.done.length:=by rw [e];simp [f1_,DA];omega
  have h0':=Cd.frz1 h0 0 rfl aB rfl;exact Cd.drop h0' rfl
end
end Go.Proofs.YtccefppppedgkaaGreat
namespace Go.Proofs.YtccefppppedgkaaGreat
def KR (x:DOp):Int:=x.phase*18446744073709551616+x.thread
end Go.Proofs.YtccefppppedgkaaGreat
