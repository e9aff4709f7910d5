/- Joined: XTShut, XTLaw11, XTLaw11c, XPl, XTHallP, XTHallC, XTHallI, XTStartR, XTRunP. -/
import Derived.Test.YtccefppppedgkaaGreatKHq
set_option linter.unusedVariables false
set_option linter.unusedSimpArgs false
set_option linter.unnecessarySimpa false
set_option maxRecDepth 100000
set_option maxHeartbeats 64000000
namespace Go.Proofs.YtccefppppedgkaaGreat
open Go.RowKit
section
attribute [local irreducible] AL AW RG Fin C Cd Cio AI AF AO
section
attribute [local simp] DR CQ
def onS (l:List AH) (h:Int):List Int:=isort (tick l) (onK l h l.length)
theorem AhC (l:List AH) (h:Int):(onS l h).length=(onK l h l.length).length∧(onS l h).length≤l.length ∧ ∀z∈onS l h,0≤z∧z<l.length:=by
 have:=t9_ l h l.length
 refine ⟨CC _,by unfold onS;rw [CC];omega,fun z hz=>?_⟩
 have:=this.2 z (EO.1 hz);omega
def shT (l:List AH) (h:Int) (t:Int):HK:=⟨t,⟨(l.getD t.toNat default).seq,ixF (isH h) (l.getD t.toNat default).cases,9,0⟩⟩
structure SG where
 c:AY
 l:List AH
 e:Int
 told:List HK
 deriving DecidableEq
def shutG (c:AY) (h:Int) (l:List AH):SG:=if c.used && !c.closed then ⟨⟨c.gen,c.cap,true,true,c.buf⟩,(onS l h).foldl cutW l,0,(onS l h).map (shT l h)⟩ else ⟨c,l,9,[]⟩
def sA (g:SG):AV:=.tup [.agg [i64 g.c.gen,i64 g.c.cap,bo g.c.used,bo g.c.closed,.t (.lst (g.c.buf.map tI))],.t (.lst (g.l.map tWt)),i64 g.e,.t (.lst (g.told.map tTd))]
theorem AnZ (h:Int) (c:BF):Cd Tryz.prog 310 [.agg ((tCs c).map .t),.lp [i64 h]] (bo (isH h c)) []:=by
 obtain ⟨a,b,v⟩:=c
 by_cases p2:b=h
 all_goals
  refine ZEN Tryz.func310 Tryz.ntmps310 ?_
  repeat' (first|refine A0 ?_|fail)
  all_goals first|(exfalso;omega)|(refine A5 Tryz.results310 ?_)
  all_goals first|(simp [isH, *];done)|skip
structure ShS where
 q:Nat
 k:Nat
 R:List AH
 T:List HK
theorem AvN (c:AY) (h:Int) (l:List AH) (hl:okW l) (hb:c.buf.length≤17592186043904) (cO:Cd Tryz.prog 305 [.ln (l.map tWt),i64 h] (.sl 0 0 (onS l h).length) [.row 0 3 1 ((onS l h).map tI)]) :
  Cd Tryz.prog 302 [aC c,i64 h,.ln (l.map tWt)] (sA (shutG c h l)) []:=by
 have hl0:=hl.1
 have h1:(l.map tWt).length=l.length:=fN _
 have hcc:=MF c (by omega)
 obtain ⟨-,hSl,hSm⟩:=AhC l h
 unfold shutG
 generalize onS l h=S at cO hSl hSm
 have h2:(S.map tI).length=S.length:=fN _
 obtain ⟨g,cap,used,closed,buf⟩:=c
 dsimp only [aC] at hcc hb ⊢
 by_cases hu:used=true∧closed=false
 ·obtain ⟨rfl,rfl⟩:=hu
  simp only [Bool.not_false,Bool.and_self,jU]
  have h0:Cd Tryz.prog 302 [.agg [i64 g,i64 cap,bo true,bo false,.ln (buf.map tI)],i64 h,.ln (l.map tWt)] (.tup [.agg [i64 g,i64 cap,bo true,bo true,.sl 0 0 buf.length],.t (.lst ((S.foldl cutW l).map tWt)),i64 0,.sl 1 0 S.length]) [.row 0 3 1 (buf.map tI),.row 0 239 5 ((S.map (shT l h)).map tTd)]:=by
   refine ZEN Tryz.func302 Tryz.ntmps302 ?_
   repeat' (first|(refine ZAL ?_;first|(refine kL 9130 rfl ?_;first|((refine AjR (d:=19) rfl rfl Tryz.func285 rfl (wcopy_c l hl) ?_);(try refine uf 4 19 ?_)))|(refine kL 12 rfl ?_;first|refine A_append_nlsub rfl rfl _ _ 200 rfl ud200 inf239 rfl rfl rfl rfl aJ qB qB iU.symm (.push qL qN) ?_)|(refine kL 6415 rfl ?_;first|refine A_lit rfl rfl 200 1 _ rfl ud200 inf239 (.cons rfl .nil) (els:=[[_,_,_,_,_]]) rfl bF rfl (gB rfl) (ZbT rfl) (ZbT rfl) (.push qL qN) ?_)|refine uA ?_|refine uK (hcc) ?_|refine uK (cO) ?_)|refine uC ?_|refine uS 23 (fun hb=>?_) (fun hb=>?_)|refine ZK2 (fun hc=>?_) (fun hc=>?_)|fail)
   all_goals try exact ZE5
   refine AW.wk (Wk.own 12 rfl 239 5 (.push rfl rfl)) ?_
   refine AW.loopP (fun (x:ShS)=>x.q≤S.length∧x.R=(S.take x.q).foldl cutW l∧okW x.R∧x.R.length=l.length∧x.T=(S.take x.q).map (shT l h)) (fun (x:ShS)=>(pu (pu (pu (pu (pu (pu (pu (pu (pu (fun _=>.any) 2 (.ln (l.map tWt))) 4 (.ptr 1 0)) 6 (.ptr 2 0)) 10 (.ptr 5 0)) 11 (.t (.lst (x.R.map tWt)))) 12 (.sl 7 x.k x.q)) 32 (.sl 6 0 S.length)) 33 (i64 S.length)) 34 (i64 x.q))) (fun (x:ShS)=>[.box 101 [i64 g,i64 cap,bo true,bo false,.ln (buf.map tI)],.box 3 [i64 h],.box 101 [i64 0,i64 0,bo false,bo false,.nl],.row 0 3 1 (buf.map tI),.gone 0,.box 101 [i64 g,i64 cap,bo true,bo true,.sl 3 0 buf.length],.row 0 3 1 (S.map tI),.row x.k 239 5 (x.T.map tTd)]) (fun (x:ShS)=>S.length-x.q) (⟨0,0,l,[]⟩) ?_ ?_ ?_
   ·exact ⟨fX _,rfl,hl,rfl,rfl⟩
   ·exact Wk.cq 8
   ·rintro ⟨q,k,R,T⟩ ⟨h3,h4,h5,h6,h7⟩
    dsimp only at h3 h4 h5 h6 h7 ⊢
    have h8:T.length=q:=by rw [h7,fN,fY];omega
    have h9:(T.map tTd).length=q:=by rw [fN,h8]
    by_cases hq:q<S.length
    ·obtain ⟨z,hz⟩ : ∃z,S[q]? = some z:=⟨_,ZgE hq⟩
     have hzm:=hSm z (fO hz)
     obtain ⟨n,rfl⟩ : ∃n:Nat,z=n:=⟨z.toNat,by omega⟩
     obtain ⟨w,hw⟩ : ∃w,l[n]? = some w:=⟨_,ZgE (by omega)⟩
     have hsh:shT l h n=⟨n,⟨w.seq,ixF (isH h) w.cases,9,0⟩⟩:=by unfold shT;rw [gE,BK hw]
     have cX:=ZI R n h5
     rw [h6] at cX
     have cI:=l6_ 310 [] [.lp [i64 h]] (isH h) (fun c=>⟨_,_,[],[.lp [i64 h]],rfl,Tryz.func310,by kernel_rfl,by kernel_rfl,fun _=>.nil,fun _=>.cons (.lpL (.cons (.t _) .nil)) .nil,AnZ h c⟩) rfl w.cases (by have:=hl.at hw;omega)
     have cE:=XT l n (ixF (isH h) w.cases) 9 0 w hw
     repeat' (first|(refine ZAL ?_;first|(refine kL 18 rfl ?_;first|(refine zkD 56 rfl ?_;refine uA ?_;(try refine uf 9 56 ?_)))|(refine kL 3235 rfl ?_;first|refine A_store_rp rfl rfl 101 _ _ rfl inf101 (by decide) rfl rfl aI rfl rfl rfl (ZbT rfl) (by first|exact map_set (f:=tTd) (x:=⟨n,⟨w.seq,ixF (isH h) w.cases,9,0⟩⟩)|exact qN) qN ?_)|(refine kL 131 rfl ?_;first|refine A_store_rp rfl rfl 4 _ _ rfl AlQ (by decide) rfl rfl aI rfl rfl rfl (ZbT rfl) (by first|exact map_set (f:=tTd) (x:=⟨n,⟨w.seq,ixF (isH h) w.cases,9,0⟩⟩)|exact qN) qN ?_)|(refine kL 12 rfl ?_;first|refine CN rfl rfl _ _ 200 rfl ud200 inf239 rfl rfl rfl cY aA qB qB (by first|exact app_map aE|exact app_one (f:=tTd) (x:=⟨n,⟨w.seq,ixF (isH h) w.cases,9,0⟩⟩) aE|exact qN) qN qS ?_|refine BD rfl rfl _ _ 200 rfl ud200 inf239 rfl rfl aA qB qB (by first|exact (rfl:_=List.map tTd [⟨n,⟨w.seq,ixF (isH h) w.cases,9,0⟩⟩])|exact qN) (.push qL qN) qS ?_|refine A_append_nlsub rfl rfl _ _ 200 rfl ud200 inf239 rfl rfl rfl rfl aJ qB qB iU.symm (.push qL qN) ?_)|(refine kL 6415 rfl ?_;first|refine A_lit rfl rfl 200 1 _ rfl ud200 inf239 (.cons rfl .nil) (els:=[[_,_,_,_,_]]) rfl (by first|exact (rfl:_=List.map tTd [⟨n,⟨w.seq,ixF (isH h) w.cases,9,0⟩⟩])|exact qN) rfl (gB rfl) (ZbT rfl) (ZbT rfl) (.push qL qN) ?_)|refine uA ?_|refine uK (cI) ?_|refine uK (cE) ?_|refine uK (cX) ?_)|refine uC ?_|refine uS 23 (fun hb=>?_) (fun hb=>?_)|refine ZK2 (fun hc=>?_) (fun hc=>?_)|fail)
     all_goals try exact ZE5
     refine ⟨⟨q+1,k+1,cutW R n,T++[⟨n,⟨w.seq,ixF (isH h) w.cases,9,0⟩⟩]⟩,⟨by dsimp only;omega,by dsimp only;rw [iB,hz,jY, ←h4];rfl,t6_ h5,by dsimp only;rw [CQ,h6],by dsimp only;rw [iB,hz,iP, ←h7, ←hsh];rfl⟩,by dsimp only;omega,?_⟩
     exact Wk.cq 8
    ·have e:q=S.length:=by omega
     subst e
     rw [jQ] at h4 h7
     subst h4 h7
     repeat' (first|refine A0 ?_|fail)
     all_goals first|(exfalso;omega)|(exact Fin.q Tryz.results302 (.cons (.agg rfl rfl ud101 rfl inf101 (us:=[_,_,_,_,_]) rfl rfl) (.cons (.tmp rfl) (.cons (.tmp rfl) (.cons (.tmp rfl) .nil)))) [3,7])
  unfold sA
  have h0':=Cd.frz h0 0 rfl aB rfl;have h0'':=Cd.frz h0' 1 rfl aB rfl;exact Cd.drop h0'' rfl
 ·have e:(used && !closed)=false:=by cases used<;>cases closed<;>simp_all
  rw [e,fT (by simp)]
  have h0:Cd Tryz.prog 302 [.agg [i64 g,i64 cap,bo used,bo closed,.ln (buf.map tI)],i64 h,.ln (l.map tWt)] (.tup [.agg [i64 g,i64 cap,bo used,bo closed,.sl 0 0 buf.length],.sl 1 0 l.length,i64 9,.nl]) [.row 0 3 1 (buf.map tI),.row 0 167 4 (l.map tWt)]:=by
   cases used<;>cases closed
   all_goals first|(exact absurd ⟨rfl,rfl⟩ hu)|skip
   all_goals
    refine ZEN Tryz.func302 Tryz.ntmps302 ?_
    repeat' (first|(refine ZAL ?_;first|refine uA ?_|refine uK (hcc) ?_|refine uK (wcopy_c l hl) ?_)|refine uC ?_|fail)
    all_goals first|(exfalso;omega)|(exact Fin.q Tryz.results302 (.cons (.agg rfl rfl ud101 rfl inf101 (us:=[_,_,_,_,_]) rfl rfl) (.cons (.tmp rfl) (.cons (.tmp rfl) (.cons (.tmp rfl) .nil)))) [3,4])
  unfold sA
  have h0':=Cd.frz h0 0 rfl aB rfl;have h0'':=Cd.frz h0' 1 rfl aB rfl;exact Cd.drop h0'' rfl
def x1:List AH:=[⟨true,0,3,[⟨2,8,0⟩]⟩]
def y1:AY:=⟨1,0,true,false,[]⟩
end
section
attribute [local simp] DR CQ
theorem r_ (c:AY) (h:Int) (l:List AH) (d v:Int) :
  ((doG c h l d v).told=[]∧(doG c h l d v).l=l∧((doG c h l d v).r.code=0∨(doG c h l d v).c.buf.length=c.buf.length)∧((doG c h l d v).c.buf.length≤c.buf.length+1∧c.buf.length≤(doG c h l d v).c.buf.length+1)) ∨
  ∃(t m:Nat) (w:AH) (z:Int),(d=1∨d=2)∧fir l (3-d) h=⟨t,m,true⟩∧l[t]? = some w∧w.on=true∧(doG c h l d v).told=[⟨t,⟨w.seq,m,0,z⟩⟩]∧(doG c h l d v).l=l.set t w0∧(doG c h l d v).c.buf.length=c.buf.length∧(doG c h l d v).r.code=0:=by
 unfold doG
 cases hr:UX c h l d
 ·left;rw [fT (by simp)];exact ⟨rfl,rfl,.inr rfl,by dsimp only;omega⟩
 ·rw [fR rfl]
  rcases AqD hr with rfl|rfl
  ·rw [fR rfl]
   cases hc:c.closed
   ·rw [fT (by simp)]
    unfold h2_
    cases hk:(fir l 2 h).ok
    ·left;rw [fT (by simp)];exact ⟨rfl,rfl,.inl rfl,by simp only [chB,fP,gT];omega⟩
    ·right
     obtain ⟨t,m,w,k,e1,e2,hw,hon,hcc,e3,e4⟩:=OI hk
     rw [fR rfl]
     refine ⟨t,m,w,v,.inl rfl,?_,hw,hon,?_,?_,rfl,rfl⟩
     ·show fir l 2 h=_
      generalize fir l 2 h=F at e1 e2 hk
      obtain ⟨a,b,o⟩:=F
      dsimp only at e1 e2 hk
      rw [e1,e2,hk]
     ·dsimp only;rw [e1,e2];unfold thW;rw [e1,gE,BK hw]
     ·dsimp only;rw [e1];exact SB (EM hw hon)
   ·left;rw [fR rfl];exact ⟨rfl,rfl,.inr rfl,by dsimp only;omega⟩
  ·rw [fT (by decide)]
   cases hp:(decide (0<(c.buf.length:Int))||(fir l 1 h).ok)
   ·left;rw [fT (by simp)];exact ⟨rfl,rfl,.inr rfl,by dsimp only;omega⟩
   ·rw [fR rfl]
    unfold g2_
    cases hk:(fir l 1 h).ok
    ·left;rw [fT (by simp)];exact ⟨rfl,rfl,.inl rfl,by simp only [chB,gJ];omega⟩
    ·right
     obtain ⟨t,m,w,k,e1,e2,hw,hon,hcc,e3,e4⟩:=OI hk
     rw [fR rfl]
     refine ⟨t,m,w,0,.inr rfl,?_,hw,hon,?_,?_,by simp [chB],rfl⟩
     ·show fir l 1 h=_
      generalize fir l 1 h=F at e1 e2 hk
      obtain ⟨a,b,o⟩:=F
      dsimp only at e1 e2 hk
      rw [e1,e2,hk]
     ·dsimp only;rw [e1,e2];unfold thW;rw [e1,gE,BK hw]
     ·dsimp only;rw [e1];exact SB (EM hw hon)
theorem ArU {c:AY} {h:Int} {l:List AH} {d v:Int} (hl:okW l):okW (doG c h l d v).l∧(doG c h l d v).l.length=l.length∧(doG c h l d v).c.buf.length≤c.buf.length+1∧(doG c h l d v).told.length≤1:=by
 rcases r_ c h l d v with ⟨h1,h2,h3,h4⟩|⟨t,m,w,z,_,_,hw,_,h1,h2,h3,_⟩
 ·rw [h1,h2];exact ⟨hl,rfl,h4.1,by simp⟩
 ·rw [h1,h2];refine ⟨⟨by simp;exact hl.1,fun x hx=>?_⟩,by simp,by omega,by simp⟩
  rcases iX hx with hx|rfl
  ·exact hl.2 x hx
  ·exact fX _
end
section
attribute [local simp] DR CQ
theorem AkS (S:List Int) : ∀(l:List AH),okW l→okW (S.foldl cutW l)∧(S.foldl cutW l).length=l.length:=by
 induction S with
 |nil=>intro l hl;exact ⟨hl,rfl⟩
 |cons z S ih =>
  intro l hl
  have:=ih (cutW l z) (t6_ hl)
  rw [lF]
  exact ⟨this.1,by rw [this.2,CQ]⟩
theorem AsG (c:AY) (h:Int) (l:List AH) (hl:okW l):Cd Tryz.prog 297 [aC c,i64 h,.ln (l.map tWt)] (bo (c.used&&c.closed&&decide (c.buf=[])&&decide (onS l h=[]))) []:=by
 have cO:=t8_ l h hl
 rw [←CC (key:=tick l)] at cO
 have h2:(onS l h).length≤l.length:=(AhC l h).2.1
 have h3:=hl.1
 unfold onS at h2 ⊢
 generalize isort (tick l) (onK l h l.length)=S at cO h2 ⊢
 obtain ⟨g,cap,used,closed,buf⟩:=c
 have h1:(buf.map tI).length=buf.length:=fN _
 dsimp only [aC]
 by_cases e1:buf=[]
 ·subst e1
  by_cases e2:S=[]
  ·subst e2
   cases used<;>cases closed
   all_goals
    refine ZEN Tryz.func297 Tryz.ntmps297 ?_
    repeat' (first|(refine ZAL ?_;first|refine uA ?_|refine uK (cO) ?_)|refine uC ?_|fail)
    all_goals first|(exfalso;omega)|(exact A6 Tryz.results297)
  ·have:0<S.length:=lI.2 e2
   rw [fZ e2]
   cases used<;>cases closed
   all_goals
    refine ZEN Tryz.func297 Tryz.ntmps297 ?_
    repeat' (first|(refine ZAL ?_;first|refine uA ?_|refine uK (cO) ?_)|refine uC ?_|fail)
    all_goals first|(exfalso;omega)|(exact A6 Tryz.results297)
 ·have:0<buf.length:=lI.2 e1
  rw [fZ e1]
  cases used<;>cases closed
  all_goals
   refine ZEN Tryz.func297 Tryz.ntmps297 ?_
   repeat' (first|refine A0 ?_|fail)
   all_goals first|(exfalso;omega)|(exact A6 Tryz.results297)
end
end
end Go.Proofs.YtccefppppedgkaaGreat
namespace Go.Proofs.YtccefppppedgkaaGreat
def hdl (p g:Int):Int:=if 0≤p∧p≤7∧1≤g∧g≤4095 then g*8+p else 0
def JM (h:Int):Bool:=decide (8≤h∧h≤32767)
def plP (h:Int):Int:=if JM h then h%8 else 0
def plG (h:Int):Int:=if JM h then h/8 else 0
theorem TI {h:Int} (a:8≤h) (b:h≤32767):plP h=h%8∧plG h=h/8∧JM h=true:=by
 have hok:JM h=true:=fW ⟨a,b⟩
 unfold plP plG;rw [fR hok,fR hok];exact ⟨rfl,rfl,hok⟩
theorem u5_ {h:Int} (a : ¬(8≤h∧h≤32767)):plP h=0∧plG h=0∧JM h=false:=by
 have hok:JM h=false:=fZ a
 unfold plP plG;rw [hok];exact ⟨rfl,rfl,rfl⟩
end Go.Proofs.YtccefppppedgkaaGreat
namespace Go.Proofs.YtccefppppedgkaaGreat
open Go.RowKit
def chA (h:AM) (p:Int):AY:=h.chans.getD p.toNat default
def DJ (h:AM) (x:Int):Bool:=JM x&&decide (plP x<(h.chans.length:Int))&&(chA h (plP x)).used&&decide ((chA h (plP x)).gen=plG x)
def HB (h:AM) (x:Int):Int:=if DJ h x then plP x else 0
def GG (d:List Rst) (t:Int) (r:Rst):List Rst:=if 0≤t∧t<(d.length:Int) then d.set t.toNat r else d
def tellL (d:List Rst) (l:List HK):List Rst:=l.foldl (fun d x=>GG d x.thread x.result) d
theorem ON (d:List Rst) (t:Int) (r:Rst):(GG d t r).length=d.length:=by unfold GG;split<;>simp
theorem PH (l:List HK) : ∀d:List Rst,(tellL d l).length=d.length:=by
 induction l with
 |nil=>intro d;rfl
 |cons x l ih=>intro d;show (tellL (GG d x.thread x.result) l).length=_;rw [ih,ON]
theorem o6_ {d:List Rst} {l:List HK} {q:Nat} {x:HK} (h:l[q]? = some x):tellL d (l.take (q+1))=GG (tellL d (l.take q)) x.thread x.result:=by unfold tellL;rw [iB,h,jY];rfl
theorem KF {h:AM} {x:Int} (e:DJ h x=true) : ∃(n:Nat) (c:AY),JM x=true∧plP x=n∧h.chans[n]? = some c∧c.used=true∧c.gen=plG x∧HB h x=n∧chA h n=c∧n<h.chans.length:=by
 have e0:=e
 unfold DJ at e
 simp only [gG,gM] at e
 obtain ⟨⟨⟨e1,e2⟩,e3⟩,e4⟩:=e
 have hb:8≤x∧x≤32767:=by unfold JM at e1;exact jO e1
 have hp:=(TI hb.1 hb.2).1
 obtain ⟨n,hn⟩ : ∃n:Nat,plP x=n:=⟨(plP x).toNat,by omega⟩
 rw [hn] at e2 e3 e4
 have hl:n<h.chans.length:=by omega
 have hg:chA h (n:Int)=h.chans[n]:=by unfold chA;rw [gE,BK (ZgE hl)]
 rw [hg] at e3 e4
 exact ⟨n,h.chans[n],e1,hn,ZgE hl,e3,e4,by unfold HB;rw [fR e0,hn],hg,hl⟩
theorem SI {h:AM} {x:Int} (e:DJ h x=false):HB h x=0:=by unfold HB;rw [e];rfl
def okO (c:AB) (x:AY):Bool := !x.used&&decide (x.gen<min c.gens 4095)
def cH (h:AM) (l:List AY):AM:=⟨h.ticket,l,h.waits,h.done⟩
def openH (c:AB) (h:AM) (cap:Int):AM × Rst :=
 if cap<0∨c.cap<cap then (h,⟨0,0,1,0⟩)
 else if 0≤ixF (okO c) h.chans then
  (cH h (h.chans.set (ixF (okO c) h.chans).toNat ⟨(chA h (ixF (okO c) h.chans)).gen+1,cap,true,false,[]⟩),⟨0,0,0,hdl (ixF (okO c) h.chans) ((chA h (ixF (okO c) h.chans)).gen+1)⟩)
 else (h,⟨0,0,if h.chans.any (fun x => !x.used) then 7 else 6,0⟩)
def AeY (c:AY) (x:Int) (l:List AH):Bool:=c.used&&c.closed&&decide (c.buf=[])&&decide (onS l x=[])
def freeH (h:AM) (x:Int):AM × Rst :=
 if DJ h x then
  if AeY (chA h (HB h x)) x h.waits then (cH h (h.chans.set (HB h x).toNat ⟨(chA h (HB h x)).gen,0,false,false,[]⟩),⟨0,0,0,0⟩) else (h,⟨0,0,13,0⟩)
 else (h,⟨0,0,8,0⟩)
def XM (k:BF):Bool:=decide (¬(k.dir=1∨k.dir=2)∨k.value<0∨4294967295<k.value)
def casesE (h:AM) (l:List BF):Int:=if l.length=0∨3<l.length∨l.any XM=true then 1 else if l.any (fun k => !DJ h k.handle) then 8 else 0
def LO (h:AM) (k:BF):Bool:=UX (chA h (HB h k.handle)) k.handle h.waits k.dir
def XW (h:AM) (k:BF):DG:=doG (chA h (HB h k.handle)) k.handle h.waits k.dir k.value
def oneH (h:AM) (which:Int) (k:BF):AM × Rst :=
 (⟨h.ticket,h.chans.set (HB h k.handle).toNat (XW h k).c,(XW h k).l,tellL h.done (XW h k).told⟩,⟨(XW h k).r.seq,which,(XW h k).r.code,(XW h k).r.value⟩)
def chooseH (h:AM) (t n:Int) (q:AU):AM × Rst :=
 if casesE h q.cases≠0 then (h,⟨0,0,casesE h q.cases,0⟩)
 else if 0≤ixF (LO h) q.cases then oneH h (ixF (LO h) q.cases) (q.cases.getD (ixF (LO h) q.cases).toNat default)
 else if q.dflt then (h,⟨0,0,10,0⟩)
 else if 4294967295≤h.ticket then (h,⟨0,0,7,0⟩)
 else if IA h.waits t then (⟨h.ticket+1,h.chans,putW h.waits t ⟨false,h.ticket,n,q.cases⟩,h.done⟩,⟨0,0,14,0⟩)
 else (h,⟨0,0,13,0⟩)
def closeH (h:AM) (x:Int):AM × Rst :=
 if DJ h x then
  (⟨h.ticket,h.chans.set (HB h x).toNat (shutG (chA h (HB h x)) x h.waits).c,(shutG (chA h (HB h x)) x h.waits).l,tellL h.done (shutG (chA h (HB h x)) x h.waits).told⟩,⟨0,0,(shutG (chA h (HB h x)) x h.waits).e,0⟩)
 else (h,⟨0,0,8,0⟩)
def lookH (h:AM) (q:AU):Rst :=
 if DJ h q.arg then (if q.kind=6 then ⟨0,0,0,(chA h (HB h q.arg)).cap⟩ else ⟨0,0,0,((chA h (HB h q.arg)).buf.length:Int)⟩) else ⟨0,0,8,0⟩
def m2_ (h:AM) (me t n:Int):Bool:=JJ h.waits t&&decide (t≠me)&&decide ((h.waits.getD t.toNat default).seq=n)
def cancelH (h:AM) (me t n:Int):AM × Rst :=
 if m2_ h me t n then (⟨h.ticket,h.chans,cutW h.waits t,GG h.done t ⟨n,0,11,0⟩⟩,⟨0,0,0,0⟩) else (h,⟨0,0,12,0⟩)
def callH (c:AB) (h:AM) (t n:Int) (q:AU):AM × Rst :=
 if q.kind=1 then openH c h q.arg
 else if q.kind=2 then freeH h q.arg
 else if q.kind=3 then chooseH h t n q
 else if q.kind=4 then closeH h q.arg
 else if q.kind=5∨q.kind=6 then (h,lookH h q)
 else if q.kind=7 then cancelH h t q.arg q.value
 else (h,⟨0,0,1,0⟩)
def applyH (c:AB) (h:AM) (t n:Int) (q:AU):AM :=
 ⟨(callH c h t n q).1.ticket,(callH c h t n q).1.chans,(callH c h t n q).1.waits,GG (callH c h t n q).1.done t ⟨n,(callH c h t n q).2.cas,(callH c h t n q).2.code,(callH c h t n q).2.value⟩⟩
theorem a2_ {h:AM} {l:List BF} (e:casesE h l=0):l.length≤3∧0<l.length∧(∀x∈l,XM x=false) ∧ ∀x∈l,DJ h x.handle=true:=by
 unfold casesE at e
 split at e
 ·omega
 ·rename_i h1
  split at e
  ·omega
  ·rename_i h2
   refine ⟨by omega,by omega,fun x hx=>?_,fun x hx=>?_⟩
   ·cases hb:XM x
    ·rfl
    ·exact absurd (.inr (.inr (lN.2 ⟨x,hx,hb⟩))) h1
   ·cases hb:DJ h x.handle
    ·exact absurd (lN.2 ⟨x,hx,by simp [hb]⟩) h2
    ·rfl
structure okQ (h:AM) (q:AU):Prop where
 a:sI q.arg
 v:sI q.value
 c : ∀x∈q.cases,sCs x
 l:q.cases.length≤5864062014805
 t : -9223372036854775808≤h.ticket
 g : ∀x∈h.chans,sI x.gen
theorem AaU (c:AB) (h:AM) (x:Int):(openH c h x).1.chans.length=h.chans.length∧(openH c h x).1.done=h.done:=by
 unfold openH
 repeat' split
 all_goals first|exact ⟨rfl,rfl⟩|(simp [cH];done)
theorem AaD (h:AM) (x:Int):(freeH h x).1.chans.length=h.chans.length∧(freeH h x).1.done=h.done:=by
 unfold freeH
 repeat' split
 all_goals first|exact ⟨rfl,rfl⟩|(simp [cH];done)
theorem a3_ (h:AM) (t n:Int) (q:AU):(chooseH h t n q).1.chans.length=h.chans.length∧(chooseH h t n q).1.done.length=h.done.length:=by
 unfold chooseH oneH
 repeat' split
 all_goals first|exact ⟨rfl,rfl⟩|(simp [PH];done)
theorem k8_ (h:AM) (x:Int):(closeH h x).1.chans.length=h.chans.length∧(closeH h x).1.done.length=h.done.length:=by unfold closeH;split<;>simp [PH]
theorem a1_ (h:AM) (me t n:Int):(cancelH h me t n).1.chans.length=h.chans.length∧(cancelH h me t n).1.done.length=h.done.length:=by unfold cancelH;split<;>simp [ON]
theorem VF (c:AB) (h:AM) (t n:Int) (q:AU):(callH c h t n q).1.chans.length=h.chans.length∧(callH c h t n q).1.done.length=h.done.length:=by
 unfold callH
 have h1:=AaU c h q.arg
 have h2:=AaD h q.arg
 have h3:=a3_ h t n q
 have h4:=k8_ h q.arg
 have h5:=a1_ h t q.arg q.value
 repeat' split
 all_goals first|exact ⟨rfl,rfl⟩|assumption|exact ⟨h1.1,by rw [h1.2]⟩|exact ⟨h2.1,by rw [h2.2]⟩
theorem LD (c:AB) (h:AM) (t n:Int) (q:AU):(applyH c h t n q).chans.length=h.chans.length∧(applyH c h t n q).done.length=h.done.length:=by
 have:=VF c h t n q
 unfold applyH
 exact ⟨this.1,by rw [ON];exact this.2⟩
theorem e5_ {d:List Rst} {j:Nat} {r:Rst} (h:j<d.length):GG d j r=d.set j r:=by unfold GG;rw [fR ⟨by omega,by omega⟩,gE]
theorem WC {d:List Rst} {t:Int} {r:Rst} (h : ¬(0≤t∧t<(d.length:Int))):GG d t r=d:=by unfold GG;rw [fT h]
section
attribute [local irreducible] AL AW RG Fin C Cd Cio AI AF AO
structure OO (h:AM):Prop where
 c:h.chans.length≤2932031007402
 b : ∀x∈h.chans,x.buf.length≤17592186043904
 w:okW h.waits
 d:h.done.length≤4398046511104
end
theorem AaT {d:List Rst} {t:Int} {r x:Rst} (h:x∈GG d t r):x∈d∨x=r:=by
 unfold GG at h;split at h
 ·exact iX h
 ·exact .inl h
structure Wq (l:List AH):Prop where
 s : ∀w∈l,w.cases.length≤3
 off : ∀w∈l,w.on=false→w=w0
theorem Wq.set {l:List AH} (h:Wq l) {t:Nat} {w:AH} (h1:w.cases.length≤3) (h2:w.on=false→w=w0):Wq (l.set t w) :=
 ⟨fun x hx=>by rcases iX hx with hx|rfl;exact h.s x hx;exact h1,fun x hx=>by rcases iX hx with hx|rfl;exact h.off x hx;exact h2⟩
theorem Wq.put {l:List AH} (h:Wq l) (t:Int) {w:AH} (hw:w.cases.length≤3):Wq (putW l t w):=by
 unfold putW;split
 ·exact h.set hw (fun e=>by cases e)
 ·exact h
structure HBd (k:Nat) (h:AM):Prop where
 tk:0≤h.ticket∧h.ticket≤k
 bl : ∀x∈h.chans,x.buf.length≤k
 gn : ∀x∈h.chans,0≤x.gen∧x.gen≤4095
 w:Wq h.waits
theorem b9_ {α:Type} {l:List α} {n:Nat} {d:α} (h:n<l.length):l.getD n d∈l:=by rw [fQ,ZgE h];exact List.getElem_mem h
theorem QR {h:AM} {x:Int} (e:DJ h x=true):chA h (HB h x)∈h.chans:=by
 obtain ⟨n,c,_,_,hc,_,_,e3,e4,_⟩:=KF e
 rw [e3,e4];exact fO hc
theorem s1_ {α:Type} {p:α→Bool} {l:List α} {d:α} (h:0≤ixF p l):l.getD (ixF p l).toNat d∈l∧p (l.getD (ixF p l).toNat d)=true:=by
 obtain ⟨a,ha,hp⟩:=QV p l h
 rw [BK ha];exact ⟨fO ha,hp⟩
theorem AbO (c:AY) (x:Int) (l:List AH):(shutG c x l).l.length=l.length:=by
 unfold shutG;split
 ·dsimp only
  suffices ∀(S:List Int) (l:List AH),(S.foldl cutW l).length=l.length from this _ _
  intro S
  induction S with
  |nil=>intro l;rfl
  |cons a S ih=>intro l;rw [lF,ih,CQ]
 ·rfl
theorem AkU (c:AY) (x:Int) (l:List AH) (d v:Int):(doG c x l d v).l.length=l.length:=by
 rcases r_ c x l d v with ⟨_,h2,_,_⟩|⟨t,m,w,z,_,_,hw,_,h1,h2,h3,_⟩
 ·rw [h2]
 ·rw [h2,iS]
theorem k7_ (c:AB) (h:AM) (t n:Int) (q:AU):(callH c h t n q).1.waits.length=h.waits.length:=by
 unfold callH openH freeH chooseH oneH XW closeH cancelH cH
 repeat' split
 all_goals first|rfl|(dsimp only;rw [AkU];done)|(dsimp only;rw [AbO];done)|(dsimp only;rw [CQ];done)|(dsimp only;rw [DR];done)
theorem ZV (c:AB) (h:AM) (t n:Int) (q:AU):(applyH c h t n q).waits.length=h.waits.length:=k7_ c h t n q
structure Ln (p th:Nat) (h:AM):Prop where
 c:h.chans.length=p
 w:h.waits.length=th
 d:h.done.length=th
theorem HBd.ok {k p th:Nat} {h:AM} (b:HBd k h) (l:Ln p th h) (hk:k≤1000) (hp:p≤1000) (ht:th≤1000):OO h :=
 ⟨by rw [l.c];omega,fun x hx=>by have:=b.bl x hx;omega,⟨by rw [l.w];omega,fun w hw=>by have:=b.w.s w hw;omega⟩,by rw [l.d];omega⟩
section
attribute [local irreducible] AL AW RG Fin C Cd Cio AI AF AO
section
def stC (s:List Int) (p i:Nat):List AY:=(List.range p).map fun j=>if j<i∧j<s.length then ⟨1,s.getD j 0,true,false,[]⟩ else ⟨0,0,false,false,[]⟩
theorem stC_len (s:List Int) (p i:Nat):(stC s p i).length=p:=by simp [stC]
theorem GX (s:List Int) {p i j:Nat} (h:j<p):(stC s p i)[j]? = some (if j<i∧j<s.length then ⟨1,s.getD j 0,true,false,[]⟩ else ⟨0,0,false,false,[]⟩):=by unfold stC;rw [gP,jW h];rfl
theorem AiO (s:List Int) (p:Nat):stC s p 0=List.replicate p ⟨0,0,false,false,[]⟩:=by
 refine iO fun j=>?_
 by_cases h:j<p
 ·rw [GX s h,mY,fR h,fT (by omega)]
 ·rw [gS eZ,gS bA]
theorem AiN {s:List Int} {p i:Nat} {x:Int} (hi:i<p) (hx:s[i]? = some x):stC s p (i+1)=(stC s p i).set i ⟨1,x,true,false,[]⟩:=by
 have hl:=get_lt hx
 refine iO fun j=>?_
 rw [gY]
 by_cases h:j<p
 ·rw [GX s h,GX s h,stC_len]
  by_cases e:i=j
  ·subst e
   rw [fR rfl,fR hi,fR ⟨by omega,hl⟩,fQ,hx];rfl
  ·rw [fT e]
   by_cases q:j<i∧j<s.length
   ·rw [fR q,fR ⟨by omega,q.2⟩]
   ·rw [fT q,fT (by omega)]
 ·rw [gS eZ,fT (by omega),gS eZ]
def plN (c:AB):Nat:=(max 0 (min c.chans 8)).toNat
def thN (c:AB):Nat:=(max 0 (min c.threads 64)).toNat
theorem AhJ (c:AB):((plN c:Nat):Int)=max 0 (min c.chans 8)∧plN c≤8:=by unfold plN;omega
theorem AiW (c:AB):((thN c:Nat):Int)=max 0 (min c.threads 64)∧thN c≤64:=by unfold thN;omega
attribute [local irreducible] stC plN thN
end
end
def startH (c:AB):AM:=⟨0,stC c.start (plN c) (plN c),List.replicate (thN c) ⟨false,0,0,[]⟩,List.replicate (thN c) ⟨0,0,0,0⟩⟩
theorem w2_ {s:List Int} {p i:Nat} {x:AY} (h:x∈stC s p i):x.buf=[]∧(x.gen=0∨x.gen=1):=by
 unfold stC at h
 obtain ⟨j, -,rfl⟩:=iW.1 h
 split<;>simp
theorem AbP (c:AB):HBd 0 (startH c):=by
 refine ⟨⟨gL _,gL _⟩,fun x hx=>?_,fun x hx=>?_,⟨fun w hw=>?_,fun w hw _=>?_⟩⟩
 ·rw [(w2_ hx).1];exact fX _
 ·rcases (w2_ hx).2 with e|e<;>omega
 ·rw [jD hw];exact fX _
 ·rw [jD hw];rfl
theorem PE (c:AB):Ln (plN c) (thN c) (startH c):=⟨stC_len _ _ _,iV,iV⟩
theorem AbQ (c:AB):OO (startH c):=(AbP c).ok (PE c) (by decide) (by have:=(AhJ c).2;omega) (by have:=(AiW c).2;omega)
end Go.Proofs.YtccefppppedgkaaGreat
