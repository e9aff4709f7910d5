/- Joined: XTSort, XTOn. -/
import Derived.Test.YtccefppppedgkaaGreatKGl
import Derived.Test.YtccefppppedgkaaGreatKGk
set_option linter.unusedVariables false
set_option linter.unusedSimpArgs false
set_option linter.unnecessarySimpa false
set_option maxRecDepth 100000
set_option maxHeartbeats 64000000
namespace Go.Proofs.YtccefppppedgkaaGreat
open Go.RowKit
section
attribute [local irreducible] AL AW RG Fin C Cd Cio AI AF AN
def PL (g:AV) (key:Int→Int) (l:List Int):Prop:=∀x∈l,∀y∈l,∃c:Int,(c<0↔key x<key y)∧CV Tryz.prog g [i64 x,i64 y] (i64 c) []
theorem PL.mono {g:AV} {key:Int→Int} {l m:List Int} (h:PL g key l) (k : ∀x∈m,x∈l):PL g key m:=fun x hx y hy=>h x (k x hx) y (k y hy)
theorem ZO (f:FuncId) (fi cap:List AV) (key:Int→Int) (l:List Int) (k a b:Nat) (hab:a≤b) (hb:b≤l.length) (hl:l.length≤1152921504606846976) (hg:PL (.fn (.func f) fi cap) key l)
  (hup:upB (CK 1) (.fn (.func f) fi cap) = .fn (.func f) fi cap) :
  Cio Tryz.prog 323 [.sl 0 k l.length,i64 a,i64 b,.fn (.func f) fi cap] [.row k 3 1 (l.map tI)] (.tup []) [.row k 3 1 ((srt key l a b).map tI)]:=by
 refine ZEN Tryz.func323 Tryz.ntmps323 ?_
 repeat' (first|refine A0 ?_|fail)
 refine AW.loopP (fun (x:Nat × List Int)=>(b≤x.1∧x.1≤b+1∧x.2=srt key l a b)∨(a<x.1∧x.1≤b∧x.2=srt key l a x.1)) (fun (x:Nat × List Int)=>(pu (pu (pu (pu (pu (fun _=>.any) 0 (.sl 0 k l.length)) 1 (i64 a)) 2 (i64 b)) 3 (.fn (.func f) fi cap)) 8 (i64 x.1))) (fun (x:Nat × List Int)=>[.row k 3 1 (x.2.map tI)]) (fun (x:Nat × List Int)=>b+1-x.1) ((a+1,l)) ?_ ?_ ?_
 ·by_cases h:a<b
  ·exact .inr ⟨by dsimp only;omega,by dsimp only;omega,(r9_ (l:=l) (by omega)).symm⟩
  ·obtain rfl:a=b:=by omega
   exact .inl ⟨by dsimp only;omega,by dsimp only;omega,d8_.symm⟩
 ·exact Wk.cq 1
 ·rintro ⟨i,M⟩ hi
  dsimp only at hi ⊢
  by_cases hib:i<b
  ·obtain ⟨h1,h2,h3⟩:a<i∧i≤b∧M=srt key l a i:=by
    rcases hi with hi|hi
    ·omega
    ·exact hi
   obtain ⟨x,hx⟩ : ∃x,l[i]? = some x:=⟨_,ZgE (by omega)⟩
   obtain ⟨S,hS⟩ : ∃S,isort key ((l.drop a).take (i-a))=S:=⟨_,rfl⟩
   have hSl:S.length=i-a:=by rw [←hS,CC,fQ,gD];omega
   have hSs:BF key S:=by rw [←hS];exact (DJ _ _).1
   have hSm : ∀z∈S,z∈l:=fun z hz=>by rw [←hS] at hz;exact gW (iH (ED.1 hz))
   have hxl:x∈l:=fI hx
   have hnew:srt key l a (i+1)=l.take a++GF key x S++l.drop (i+1):=by unfold srt;rw [SL (by omega) hx,FU,hS]
   have hM:M=l.take a++S++x::l.drop (i+1):=by rw [h3, ←FP hx, ←hS];rfl
   clear h3 hi
   have hta:(l.take a).length=a:=by rw [fQ];omega
   repeat' (first|refine A0 ?_|fail)
   all_goals try exact ZE5
   refine AW.loopP (fun (y:Int × List Int × List Int × List Int)=>y.1=a+y.2.2.1.length∧y.2.2.1++y.2.2.2=S∧(∀z∈y.2.2.2,key x<key z)∧y.2.1=l.take a++y.2.2.1++x::(y.2.2.2++l.drop (i+1))) (fun (y:Int × List Int × List Int × List Int)=>(pu (pu (pu (pu (pu (pu (fun _=>.any) 0 (.sl 0 k l.length)) 1 (i64 a)) 2 (i64 b)) 3 (.fn (.func f) fi cap)) 8 (i64 i)) 9 (i64 y.1))) (fun (y:Int × List Int × List Int × List Int)=>[.row k 3 1 (y.2.1.map tI)]) (fun (y:Int × List Int × List Int × List Int)=>y.2.2.1.length) (((i:Int),M,S,[])) ?_ ?_ ?_
   ·exact ⟨by dsimp only;omega,by simp,by simp,by simpa using hM⟩
   ·exact Wk.cq 1
   ·rintro ⟨j,M,S1,S2⟩ ⟨h4,h5,h6,h7⟩
    dsimp only at h4 h5 h6 h7 ⊢
    have hS12:S1.length+S2.length=i-a:=by rw [←hSl, ←h5,fJ]
    have hMl:M.length=l.length:=by rw [h7];simp only [fJ,fY,gD,hta];omega
    have hMt:(M.map tI).length=l.length:=by rw [fH,hMl]
    have hP:(l.take a++S1).length=j.toNat:=by rw [fJ,hta];omega
    have hxj:M[j.toNat]? = some x:=by rw [h7,fV (by omega),hP,kS];rfl
    by_cases hS1:S1=[]
    ·subst hS1
     simp only [gB] at h4 hS12
     have hn2:srt key l a (i+1)=M:=by rw [hnew, ←h5,JU (fun _ h=>by simp at h) h6,h7];simp
     repeat' (first|refine Cg ?_|fail)
     all_goals try exact ZE5
     refine ⟨(i+1,M),.inr ⟨by dsimp only;omega,by dsimp only;omega,hn2.symm⟩,by dsimp only;omega,?_⟩
     exact Wk.cq 1
    ·obtain ⟨S0,y,rfl⟩ : ∃S0 y,S1=S0++[y]:=⟨_,_,(lU hS1).symm⟩
     have hyS:y∈S:=by rw [←h5];simp
     have hyl:=hSm y hyS
     simp only [fJ,gQ] at h4 hS12
     have hP0:(l.take a++S0).length=(j-1).toNat:=by rw [fJ,hta];omega
     have h8:M=(l.take a++S0)++y::x::(S2++l.drop (i+1)):=by rw [h7];simp
     have hyj:M[(j-1).toNat]? = some y:=by rw [h8,fV (by omega),hP0,kS];rfl
     obtain ⟨c,hc0,hcv⟩:=hg x hxl y hyl
     by_cases hk:key x<key y
     ·have hcn:=hc0.2 hk
      have hsw:(M.set j.toNat y).set (j-1).toNat x=l.take a++S0++x::y::(S2++l.drop (i+1)):=by rw [h8];exact XW (by omega) (by omega)
      have hyj2:(M.set j.toNat y)[(j-1).toNat]? = some y:=by rw [jG (by omega),hyj]
      repeat' (first|(refine ZRG ?_;first|(refine kR 11 rfl ?_;first|refine BZ rfl rfl rfl rfl (hcv) (acc:=_) rfl (fun h' hh=>by ((repeat (first|exact .nil|refine .cons ?_ ?_|exact .t _));(first|done|fail))) rfl rfl ?_))|refine uA ?_|refine uR ?_|refine uC ?_|(first|refine AW.drawU (id:=4) mixed 2 qR ?_|refine AW.drawU (id:=6) mixed 0 qR ?_)|fail)
      all_goals try exact ZE5
      rw [hsw]
      refine ⟨(j-1,l.take a++S0++x::y::(S2++l.drop (i+1)),S0,y::S2),⟨by dsimp only;omega,by rw [←h5];simp,fun z hz=>?_,rfl⟩,by simp,?_⟩
      ·rcases iE.1 hz with rfl|hz
       ·exact hk
       ·exact h6 z hz
      ·exact Wk.cq 1
     ·have hcn : ¬c<0:=fun h=>hk (hc0.1 h)
      have hn2:srt key l a (i+1)=M:=by
       rw [hnew, ←h5,JU (fun z hz=>?_) h6,h7]
       ·simp
       ·rw [←h5,fS] at hSs
        have hp:=(lI.1 hSs).2.2
        rcases gJ.1 hz with hz|hz
        ·have:=hp z hz y (by simp);omega
        ·simp at hz;subst hz;exact hk
      repeat' (first|(refine ZRG ?_;first|(refine kR 11 rfl ?_;first|refine BZ rfl rfl rfl rfl (hcv) (acc:=_) rfl (fun h' hh=>by ((repeat (first|exact .nil|refine .cons ?_ ?_|exact .t _));(first|done|fail))) rfl rfl ?_))|refine Cg ?_|fail)
      all_goals try exact ZE5
      refine ⟨(i+1,M),.inr ⟨by dsimp only;omega,by dsimp only;omega,hn2.symm⟩,by dsimp only;omega,?_⟩
      exact Wk.cq 1
  ·have hM:M=srt key l a b:=by
    rcases hi with ⟨_,_,h⟩|⟨_,h2,h⟩
    ·exact h
    ·obtain rfl:i=b:=by omega
     exact h
   subst hM
   repeat' (first|refine A0 ?_|fail)
   all_goals exact Ah Tryz.results323
theorem k2_ {l:List Int} {i j:Nat} {x y:Int} (hx:l[i]? = some x) (hy:l[j]? = some y):(l.set i y).set j x=swp l i j:=by
 unfold swp;rw [fK,fK,hx,hy];rfl
theorem JQ (g:AV) (hup:upB (CK 1) g=g) (l:List Int) (k a b n:Nat) (hab:a+n≤b) (hb:b+n≤l.length) (hl:l.length≤1152921504606846976) :
  Cio Tryz.prog 326 [.sl 0 k l.length,i64 a,i64 b,i64 n,g] [.row k 3 1 (l.map tI)] (.tup []) [.row k 3 1 ((swr l a b n).map tI)]:=by
 refine ZEN Tryz.func326 Tryz.ntmps326 ?_
 repeat' (first|refine A0 ?_|fail)
 refine AW.loopP (fun (x:Nat × List Int)=>x.1≤n∧x.2.length=l.length∧swr x.2 (a+x.1) (b+x.1) (n-x.1)=swr l a b n) (fun (x:Nat × List Int)=>(pu (pu (pu (pu (pu (fun _=>.any) 0 (.sl 0 k l.length)) 1 (i64 a)) 2 (i64 b)) 3 (i64 n)) 10 (i64 x.1))) (fun (x:Nat × List Int)=>[.row k 3 1 (x.2.map tI)]) (fun (x:Nat × List Int)=>n-x.1) ((0,l)) ?_ ?_ ?_
 ·exact ⟨fO _,rfl,rfl⟩
 ·exact Wk.cq 1
 ·rintro ⟨i,M⟩ ⟨h1,h2,h3⟩
  dsimp only at h1 h2 h3 ⊢
  have hMt:(M.map tI).length=l.length:=by rw [fH,h2]
  by_cases hi:i<n
  ·have e1:((a:Int)+(i:Int)).toNat=a+i:=by omega
   have e2:((b:Int)+(i:Int)).toNat=b+i:=by omega
   obtain ⟨x,hx⟩ : ∃x,M[((a:Int)+(i:Int)).toNat]? = some x:=⟨_,ZgE (by omega)⟩
   obtain ⟨y,hy⟩ : ∃y,M[((b:Int)+(i:Int)).toNat]? = some y:=⟨_,ZgE (by omega)⟩
   have hy2:(M.set ((a:Int)+(i:Int)).toNat y)[((b:Int)+(i:Int)).toNat]? = some y:=by rw [jG (by omega),hy]
   have hs:=k2_ hx hy
   rw [show n-i=(n-(i+1))+1 by omega,swr, ←e1, ←e2, ←hs,e1,e2] at h3
   skip
   repeat' (first|refine Dm ?_|fail)
   all_goals try exact ZE5
   refine ⟨(i+1,(M.set ((a:Int)+(i:Int)).toNat y).set ((b:Int)+(i:Int)).toNat x),⟨by dsimp only;omega,by simp [h2],by dsimp only;rw [←h3,e1,e2];rfl⟩,by dsimp only;omega,?_⟩
   exact Wk.cq 1
  ·obtain rfl:i=n:=by omega
   rw [kS,swr] at h3
   subst h3
   repeat' (first|refine A0 ?_|fail)
   all_goals exact Ah Tryz.results326
theorem c9_ (f:FuncId) (fi cap:List AV) (hup:upB (CK 1) (.fn (.func f) fi cap) = .fn (.func f) fi cap) (hps : ∀heap sel,BG heap sel (.fn (.func f) fi cap) (.fn (.func f) fi cap)) (l:List Int) (k a m b:Nat) (ham:a<m) (hmb:m<b) (hb:b≤l.length) (hl:l.length≤1152921504606846976) :
  Cio Tryz.prog 325 [.sl 0 k l.length,i64 a,i64 m,i64 b,.fn (.func f) fi cap] [.row k 3 1 (l.map tI)] (.tup []) [.row k 3 1 ((rot l a m b).map tI)]:=by
 refine ZEN Tryz.func325 Tryz.ntmps325 ?_
 repeat' (first|refine A0 ?_|fail)
 refine AW.loopP (fun (x:List Int × List Int × List Int × List Int × List Int)=>x.1=x.2.1++x.2.2.1++x.2.2.2.1++x.2.2.2.2∧x.2.1++x.2.2.2.1++x.2.2.1++x.2.2.2.2=rot l a m b∧x.2.1.length+x.2.2.1.length=m∧0<x.2.2.1.length∧0<x.2.2.2.1.length∧x.1.length=l.length) (fun (x:List Int × List Int × List Int × List Int × List Int)=>(pu (pu (pu (pu (pu (fun _=>.any) 0 (.sl 0 k l.length)) 2 (i64 m)) 4 (.fn (.func f) fi cap)) 10 (i64 (x.2.2.1.length:Nat))) 11 (i64 (x.2.2.2.1.length:Nat)))) (fun (x:List Int × List Int × List Int × List Int × List Int)=>[.row k 3 1 (x.1.map tI)]) (fun (x:List Int × List Int × List Int × List Int × List Int)=>x.2.2.1.length+x.2.2.2.1.length) ((l,l.take a,seg l a m,seg l m b,l.drop b)) ?_ ?_ ?_
 ·refine ⟨j9_ (by omega) (by omega),rfl,?_,?_,?_,rfl⟩
  ·dsimp only;rw [fQ,BN (by omega)];omega
  ·dsimp only;rw [BN (by omega)];omega
  ·dsimp only;rw [BN (by omega)];omega
 ·rw [show ((seg l a m).length:Int)=(m:Int)-a by rw [BN (by omega)];omega,show ((seg l m b).length:Int)=(b:Int)-m by rw [BN (by omega)];omega]
  exact Wk.cq 1
 ·rintro ⟨M,P,X,Y,S⟩ ⟨h1,h2,h3,h4,h5,h6⟩
  dsimp only at h1 h2 h3 h4 h5 h6 ⊢
  have hML:P.length+X.length+Y.length+S.length=l.length:=by rw [←h6,h1];simp only [fJ]
  have hMt:(M.map tI).length=l.length:=by rw [fH,h6]
  obtain ⟨p,hp⟩ : ∃p,p=P.length:=⟨_,rfl⟩
  have ep:(p:Int)=(m:Int)-(X.length:Nat):=by omega
  rcases mA X.length Y.length with hxy|hxy|hxy
  ·-- i<j
   obtain ⟨q,hq⟩ : ∃q,q=Y.length-X.length:=⟨_,rfl⟩
   have hY:Y=Y.take q++Y.drop q:=(iR _ _).symm
   have ly1:(Y.take q).length=q:=by rw [fQ];omega
   have ly2:(Y.drop q).length=X.length:=by rw [gD];omega
   have c1:=JQ (.fn (.func f) fi cap) hup M k p (m+q) X.length (by omega) (by omega) (by omega)
   have e1:swr M p (m+q) X.length=P++Y.drop q++Y.take q++(X++S):=by
    have:=LE (P:=P) (X:=X) (M:=Y.take q) (Y:=Y.drop q) (S:=S) (a:=p) (b:=m+q) (n:=X.length) hp (by omega) rfl ly2.symm
    rw [h1]
    conv=>lhs;rw [hY]
    rw [←fS (P++X),this];simp [fS]
   rw [e1,h6,ep,show ((m+q:Nat):Int)=(m:Int)+(Y.length:Nat)-(X.length:Nat) by omega] at c1
   repeat' (first|refine Ao ?_|fail)
   all_goals try exact ZE5
   refine ⟨(P++Y.drop q++Y.take q++(X++S),P,Y.drop q,Y.take q,X++S),⟨rfl,?_,by dsimp only;omega,by dsimp only;omega,by dsimp only;omega,?_⟩,by dsimp only;omega,?_⟩
   ·dsimp only;rw [←h2];conv=>rhs;rw [hY]
    simp [fS]
   ·dsimp only;simp only [fJ,ly1,ly2];omega
   ·dsimp only;rw [ly1,ly2,show (q:Int)=(Y.length:Nat)-(X.length:Nat) by omega]
    exact Wk.cq 1
  ·-- i=j
   have c1:=JQ (.fn (.func f) fi cap) hup M k p m X.length (by omega) (by omega) (by omega)
   have e1:swr M p m X.length=rot l a m b:=by
    have:=LE (P:=P) (X:=X) (M:=[]) (Y:=Y) (S:=S) (a:=p) (b:=m) (n:=X.length) hp bA rfl hxy
    rw [h1, ←h2]
    simpa using this
   rw [e1,h6,ep] at c1
   repeat' (first|refine Ao ?_|fail)
   all_goals exact Ah Tryz.results325
  ·-- i>j
   obtain ⟨q,hq⟩ : ∃q,q=Y.length:=⟨_,rfl⟩
   have hX:X=X.take q++X.drop q:=(iR _ _).symm
   have lx1:(X.take q).length=q:=by rw [fQ];omega
   have lx2:(X.drop q).length=X.length-Y.length:=by rw [gD];omega
   have c1:=JQ (.fn (.func f) fi cap) hup M k p m Y.length (by omega) (by omega) (by omega)
   have e1:swr M p m Y.length=(P++Y)++X.drop q++X.take q++S:=by
    have:=LE (P:=P) (X:=X.take q) (M:=X.drop q) (Y:=Y) (S:=S) (a:=p) (b:=m) (n:=Y.length) hp (by omega) (by omega) rfl
    rw [h1]
    conv=>lhs;rw [hX]
    rw [←fS P,this]
   rw [e1,h6,ep] at c1
   repeat' (first|refine Ao ?_|fail)
   all_goals try exact ZE5
   refine ⟨((P++Y)++X.drop q++X.take q++S,P++Y,X.drop q,X.take q,S),⟨rfl,?_,?_,by dsimp only;omega,by dsimp only;omega,?_⟩,by dsimp only;omega,?_⟩
   ·dsimp only;rw [←h2];conv=>rhs;rw [hX]
    simp [fS]
   ·dsimp only;rw [fJ,lx2];omega
   ·dsimp only;simp only [fJ,lx1,lx2];omega
   ·dsimp only;rw [lx1,lx2,show ((X.length-Y.length:Nat):Int)=(X.length:Nat)-(Y.length:Nat) by omega,hq]
    exact Wk.cq 1
theorem YU (f:FuncId) (fi cap:List AV) (p:BD→Bool) (hg : ∀c:BD,CV Tryz.prog (.fn (.func f) fi cap) [.agg ((tCs c).map .t)] (.t (.v (.bool (p c)))) []) (hup:upB (CK 0) (.fn (.func f) fi cap) = .fn (.func f) fi cap) (hps : ∀heap sel,BG heap sel (.fn (.func f) fi cap) (.fn (.func f) fi cap))
  (l:List BD) (hl:l.length≤1152921504606846976):Cd Tryz.prog 312 [.ln (l.map tCs),.fn (.func f) fi cap] (bo (decide (0≤ixF p l))) []:=by
 have c1:=h4_ f fi cap p hg hup l hl
 refine ZEN Tryz.func312 Tryz.ntmps312 ?_
 by_cases h:0≤ixF p l
 all_goals
  repeat' (first|refine A6 ?_|fail)
  all_goals first|(exfalso;omega)|(refine A7 Tryz.results312 ?_)
  all_goals first|(simp [h];done)|skip
def isH (h:Int) (c:BD):Bool:=decide (c.handle=h)
theorem AxX (h:Int) (c:BD):Cd Tryz.prog 313 [.agg ((tCs c).map .t),.lp [i64 h]] (bo (isH h c)) []:=by
 obtain ⟨a,b,v⟩:=c
 by_cases p2:b=h
 all_goals
  refine ZEN Tryz.func313 Tryz.ntmps313 ?_
  repeat' (first|refine A0 ?_|fail)
  all_goals first|(exfalso;omega)|(refine A7 Tryz.results313 ?_)
  all_goals first|(simp [isH, *];done)|skip
theorem AjO (x:Int):Cd Tryz.prog 321 [i64 x] (bo false) []:=by
 refine ZEN Tryz.func321 Tryz.ntmps321 ?_
 repeat' (first|refine A0 ?_|fail)
 all_goals (exact A5 Tryz.results321)
def WC (a b:Int):Int:=if a<b then -1 else if a>b then 1 else 0
theorem u9_ (a b:Int):Cd Tryz.prog 316 [i64 a,i64 b] (i64 (WC a b)) []:=by
 refine ZEN Tryz.func316 Tryz.ntmps316 ?_
 repeat' (first|(refine ZAL ?_;first|refine uA ?_|refine uK (AjO _) ?_)|refine uC ?_|refine kcp rfl (fun hc=>?_) (fun hc=>?_)|fail)
 ·rw [show WC a b = -1 from fL hc]
  exact A5 Tryz.results316
 ·rename_i h1
  rw [show WC a b=1 by unfold WC;rw [fM h1,fL hc]]
  exact A5 Tryz.results316
 ·rename_i h1
  rw [show WC a b=0 by unfold WC;rw [fM h1,fM hc]]
  exact A5 Tryz.results316
theorem AxY (l:List AH) (x y:Nat) (a b:AH) (ha:l[x]? = some a) (hb:l[y]? = some b):Cd Tryz.prog 315 [i64 x,i64 y,.lp [.ln (l.map tWt)]] (i64 (WC a.ticket b.ticket)) []:=by
 have h1:(l.map tWt).length=l.length:=fH _
 have h2:=get_lt ha
 have h3:=get_lt hb
 refine ZEN Tryz.func315 Tryz.ntmps315 ?_
 repeat' (first|refine uA ?_|(refine ZRG ?_;first|refine uR ?_|refine ZQ1 (u9_ a.ticket b.ticket) ?_)|refine uC ?_|refine AW.drawU (id:=1) mixed 0 qR ?_|fail)
 all_goals exact A2 Tryz.results315
def tick (l:List AH) (t:Int):Int:=(l.getD t.toNat default).ticket
theorem ArF (l:List AH) (O:List Int) (hO : ∀z∈O,0≤z∧z<l.length):PL (.fn (.func 315) [] [.lp [.ln (l.map tWt)]]) (tick l) O:=fun x hx y hy=>by
 obtain ⟨x1,x2⟩:=hO x hx
 obtain ⟨y1,y2⟩:=hO y hy
 obtain ⟨m,rfl⟩ : ∃m:Nat,x=m:=⟨x.toNat,by omega⟩
 obtain ⟨n,rfl⟩ : ∃n:Nat,y=n:=⟨y.toNat,by omega⟩
 obtain ⟨a,ha⟩ : ∃a,l[m]? = some a:=⟨_,ZgE (by omega)⟩
 obtain ⟨b,hb⟩ : ∃b,l[n]? = some b:=⟨_,ZgE (by omega)⟩
 refine ⟨WC a.ticket b.ticket,?_,⟨_,_,[],[.lp [.ln (l.map tWt)]],rfl,Tryz.func315,by kernel_rfl,by kernel_rfl,fun _=>.nil,fun _=>.cons (.lpL (.cons (.ln _) .nil)) .nil,AxY l m n a b ha hb⟩⟩
 unfold tick WC
 rw [fW,fW,BJ ha,BJ hb]
 repeat' split
 all_goals omega
end
end Go.Proofs.YtccefppppedgkaaGreat
