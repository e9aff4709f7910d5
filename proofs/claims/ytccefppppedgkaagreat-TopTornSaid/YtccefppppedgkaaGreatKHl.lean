/- Joined: XTSort, XTSortM, XTSortW. -/
import Derived.Test.YtccefppppedgkaaGreatKHi
import Derived.Test.YtccefppppedgkaaGreatKHj
set_option linter.unusedVariables false
set_option linter.unusedSimpArgs false
set_option linter.unnecessarySimpa false
set_option maxRecDepth 100000
set_option maxHeartbeats 64000000
namespace Go.Proofs.YtccefppppedgkaaGreat
open Go.RowKit
section
attribute [local irreducible] AL AW RG Fin C Cd Cio AI AF AO
def QK (g:AV) (key:Int→Int) (l:List Int):Prop:=∀x∈l,∀y∈l,∃c:Int,(c<0↔key x<key y)∧CV Tryz.prog g [i64 x,i64 y] (i64 c) []
theorem QK.mono {g:AV} {key:Int→Int} {l m:List Int} (h:QK g key l) (k : ∀x∈m,x∈l):QK g key m:=fun x hx y hy=>h x (k x hx) y (k y hy)
theorem c5_ (f:FuncId) (fi cap:List AV) (key:Int→Int) (l:List Int) (k a b:Nat) (hab:a≤b) (hb:b≤l.length) (hl:l.length≤1152921504606846976) (hg:QK (.fn (.func f) fi cap) key l)
  (hup:upB (CM 1) (.fn (.func f) fi cap) = .fn (.func f) fi cap) :
  Cio Tryz.prog 323 [.sl 0 k l.length,i64 a,i64 b,.fn (.func f) fi cap] [.row k 3 1 (l.map tI)] (.tup []) [.row k 3 1 ((srt key l a b).map tI)]:=by
 refine ZEN Tryz.func323 Tryz.ntmps323 ?_
 repeat' (first|refine A0 ?_|fail)
 refine AW.loopP (fun (x:Nat × List Int)=>(b≤x.1∧x.1≤b+1∧x.2=srt key l a b)∨(a<x.1∧x.1≤b∧x.2=srt key l a x.1)) (fun (x:Nat × List Int)=>(pu (pu (pu (pu (pu (fun _=>.any) 0 (.sl 0 k l.length)) 1 (i64 a)) 2 (i64 b)) 3 (.fn (.func f) fi cap)) 8 (i64 x.1))) (fun (x:Nat × List Int)=>[.row k 3 1 (x.2.map tI)]) (fun (x:Nat × List Int)=>b+1-x.1) ((a+1,l)) ?_ ?_ ?_
 ·by_cases h:a<b
  ·exact .inr ⟨by dsimp only;omega,by dsimp only;omega,(w1_ (l:=l) (by omega)).symm⟩
  ·obtain rfl:a=b:=by omega
   exact .inl ⟨by dsimp only;omega,by dsimp only;omega,h6_.symm⟩
 ·exact Wk.cq 1
 ·rintro ⟨i,M⟩ hi
  dsimp only at hi ⊢
  by_cases hib:i<b
  ·obtain ⟨h1,h2,h3⟩:a<i∧i≤b∧M=srt key l a i:=by
    rcases hi with hi|hi
    ·omega
    ·exact hi
   obtain ⟨x,hx⟩ : ∃x,l[i]? = some x:=⟨_,ZgE (by omega)⟩
   obtain ⟨S,hS⟩ : ∃S,isort key ((l.drop a).take (i-a))=S:=⟨_,rfl⟩
   have hSl:S.length=i-a:=by rw [←hS,CC,fY,gJ];omega
   have hSs:BG key S:=by rw [←hS];exact (DN _ _).1
   have hSm : ∀z∈S,z∈l:=fun z hz=>by rw [←hS] at hz;exact iF (iQ (EO.1 hz))
   have hxl:x∈l:=fO hx
   have hnew:srt key l a (i+1)=l.take a++GN key x S++l.drop (i+1):=by unfold srt;rw [TY (by omega) hx,GF,hS]
   have hM:M=l.take a++S++x::l.drop (i+1):=by rw [h3, ←GB hx, ←hS];rfl
   clear h3 hi
   have hta:(l.take a).length=a:=by rw [fY];omega
   repeat' (first|refine A0 ?_|fail)
   all_goals try exact ZE5
   refine AW.loopP (fun (y:Int × List Int × List Int × List Int)=>y.1=a+y.2.2.1.length∧y.2.2.1++y.2.2.2=S∧(∀z∈y.2.2.2,key x<key z)∧y.2.1=l.take a++y.2.2.1++x::(y.2.2.2++l.drop (i+1))) (fun (y:Int × List Int × List Int × List Int)=>(pu (pu (pu (pu (pu (pu (fun _=>.any) 0 (.sl 0 k l.length)) 1 (i64 a)) 2 (i64 b)) 3 (.fn (.func f) fi cap)) 8 (i64 i)) 9 (i64 y.1))) (fun (y:Int × List Int × List Int × List Int)=>[.row k 3 1 (y.2.1.map tI)]) (fun (y:Int × List Int × List Int × List Int)=>y.2.2.1.length) (((i:Int),M,S,[])) ?_ ?_ ?_
   ·exact ⟨by dsimp only;omega,by simp,by simp,by simpa using hM⟩
   ·exact Wk.cq 1
   ·rintro ⟨j,M,S1,S2⟩ ⟨h4,h5,h6,h7⟩
    dsimp only at h4 h5 h6 h7 ⊢
    have hS12:S1.length+S2.length=i-a:=by rw [←hSl, ←h5,fP]
    have hMl:M.length=l.length:=by rw [h7];simp only [fP,gF,gJ,hta];omega
    have hMt:(M.map tI).length=l.length:=by rw [fN,hMl]
    have hP:(l.take a++S1).length=j.toNat:=by rw [fP,hta];omega
    have hxj:M[j.toNat]? = some x:=by rw [h7,gD (by omega),hP,lJ];rfl
    by_cases hS1:S1=[]
    ·subst hS1
     simp only [gI] at h4 hS12
     have hn2:srt key l a (i+1)=M:=by rw [hnew, ←h5,KH (fun _ h=>by simp at h) h6,h7];simp
     repeat' (first|refine Co ?_|fail)
     all_goals try exact ZE5
     refine ⟨(i+1,M),.inr ⟨by dsimp only;omega,by dsimp only;omega,hn2.symm⟩,by dsimp only;omega,?_⟩
     exact Wk.cq 1
    ·obtain ⟨S0,y,rfl⟩ : ∃S0 y,S1=S0++[y]:=⟨_,_,(mG hS1).symm⟩
     have hyS:y∈S:=by rw [←h5];simp
     have hyl:=hSm y hyS
     simp only [fP,gT] at h4 hS12
     have hP0:(l.take a++S0).length=(j-1).toNat:=by rw [fP,hta];omega
     have h8:M=(l.take a++S0)++y::x::(S2++l.drop (i+1)):=by rw [h7];simp
     have hyj:M[(j-1).toNat]? = some y:=by rw [h8,gD (by omega),hP0,lJ];rfl
     obtain ⟨c,hc0,hcv⟩:=hg x hxl y hyl
     by_cases hk:key x<key y
     ·have hcn:=hc0.2 hk
      have hsw:(M.set j.toNat y).set (j-1).toNat x=l.take a++S0++x::y::(S2++l.drop (i+1)):=by rw [h8];exact ZF (by omega) (by omega)
      have hyj2:(M.set j.toNat y)[(j-1).toNat]? = some y:=by rw [jJ (by omega),hyj]
      repeat' (first|(refine ZRG ?_;first|(refine kR 11 rfl ?_;first|refine CA rfl rfl rfl rfl (hcv) (acc:=_) rfl (fun h' hh=>by ((repeat (first|exact .nil|refine .cons ?_ ?_|exact .t _));(first|done|fail))) rfl rfl ?_))|refine uA ?_|refine uR ?_|refine uC ?_|(first|refine AW.drawU (id:=4) mixed 2 qR ?_|refine AW.drawU (id:=6) mixed 0 qR ?_)|fail)
      all_goals try exact ZE5
      rw [hsw]
      refine ⟨(j-1,l.take a++S0++x::y::(S2++l.drop (i+1)),S0,y::S2),⟨by dsimp only;omega,by rw [←h5];simp,fun z hz=>?_,rfl⟩,by simp,?_⟩
      ·rcases iH.1 hz with rfl|hz
       ·exact hk
       ·exact h6 z hz
      ·exact Wk.cq 1
     ·have hcn : ¬c<0:=fun h=>hk (hc0.1 h)
      have hn2:srt key l a (i+1)=M:=by
       rw [hnew, ←h5,KH (fun z hz=>?_) h6,h7]
       ·simp
       ·rw [←h5,gC] at hSs
        have hp:=(lT.1 hSs).2.2
        rcases gQ.1 hz with hz|hz
        ·have:=hp z hz y (by simp);omega
        ·simp at hz;subst hz;exact hk
      repeat' (first|(refine ZRG ?_;first|(refine kR 11 rfl ?_;first|refine CA rfl rfl rfl rfl (hcv) (acc:=_) rfl (fun h' hh=>by ((repeat (first|exact .nil|refine .cons ?_ ?_|exact .t _));(first|done|fail))) rfl rfl ?_))|refine Co ?_|fail)
      all_goals try exact ZE5
      refine ⟨(i+1,M),.inr ⟨by dsimp only;omega,by dsimp only;omega,hn2.symm⟩,by dsimp only;omega,?_⟩
      exact Wk.cq 1
  ·have hM:M=srt key l a b:=by
    rcases hi with ⟨_,_,h⟩|⟨_,h2,h⟩
    ·exact h
    ·obtain rfl:i=b:=by omega
     exact h
   subst hM
   repeat' (first|refine A0 ?_|fail)
   all_goals exact Ah Tryz.results323
theorem o5_ {l:List Int} {i j:Nat} {x y:Int} (hx:l[i]? = some x) (hy:l[j]? = some y):(l.set i y).set j x=swp l i j:=by
 unfold swp;rw [fQ,fQ,hx,hy];rfl
theorem KD (g:AV) (hup:upB (CM 1) g=g) (l:List Int) (k a b n:Nat) (hab:a+n≤b) (hb:b+n≤l.length) (hl:l.length≤1152921504606846976) :
  Cio Tryz.prog 326 [.sl 0 k l.length,i64 a,i64 b,i64 n,g] [.row k 3 1 (l.map tI)] (.tup []) [.row k 3 1 ((swr l a b n).map tI)]:=by
 refine ZEN Tryz.func326 Tryz.ntmps326 ?_
 repeat' (first|refine A0 ?_|fail)
 refine AW.loopP (fun (x:Nat × List Int)=>x.1≤n∧x.2.length=l.length∧swr x.2 (a+x.1) (b+x.1) (n-x.1)=swr l a b n) (fun (x:Nat × List Int)=>(pu (pu (pu (pu (pu (fun _=>.any) 0 (.sl 0 k l.length)) 1 (i64 a)) 2 (i64 b)) 3 (i64 n)) 10 (i64 x.1))) (fun (x:Nat × List Int)=>[.row k 3 1 (x.2.map tI)]) (fun (x:Nat × List Int)=>n-x.1) ((0,l)) ?_ ?_ ?_
 ·exact ⟨fX _,rfl,rfl⟩
 ·exact Wk.cq 1
 ·rintro ⟨i,M⟩ ⟨h1,h2,h3⟩
  dsimp only at h1 h2 h3 ⊢
  have hMt:(M.map tI).length=l.length:=by rw [fN,h2]
  by_cases hi:i<n
  ·have e1:((a:Int)+(i:Int)).toNat=a+i:=by omega
   have e2:((b:Int)+(i:Int)).toNat=b+i:=by omega
   obtain ⟨x,hx⟩ : ∃x,M[((a:Int)+(i:Int)).toNat]? = some x:=⟨_,ZgE (by omega)⟩
   obtain ⟨y,hy⟩ : ∃y,M[((b:Int)+(i:Int)).toNat]? = some y:=⟨_,ZgE (by omega)⟩
   have hy2:(M.set ((a:Int)+(i:Int)).toNat y)[((b:Int)+(i:Int)).toNat]? = some y:=by rw [jJ (by omega),hy]
   have hs:=o5_ hx hy
   rw [show n-i=(n-(i+1))+1 by omega,swr, ←e1, ←e2, ←hs,e1,e2] at h3
   skip
   repeat' (first|refine Dy ?_|fail)
   all_goals try exact ZE5
   refine ⟨(i+1,(M.set ((a:Int)+(i:Int)).toNat y).set ((b:Int)+(i:Int)).toNat x),⟨by dsimp only;omega,by simp [h2],by dsimp only;rw [←h3,e1,e2];rfl⟩,by dsimp only;omega,?_⟩
   exact Wk.cq 1
  ·obtain rfl:i=n:=by omega
   rw [lJ,swr] at h3
   subst h3
   repeat' (first|refine A0 ?_|fail)
   all_goals exact Ah Tryz.results326
theorem g6_ (f:FuncId) (fi cap:List AV) (hup:upB (CM 1) (.fn (.func f) fi cap) = .fn (.func f) fi cap) (hps : ∀heap sel,BH heap sel (.fn (.func f) fi cap) (.fn (.func f) fi cap)) (l:List Int) (k a m b:Nat) (ham:a<m) (hmb:m<b) (hb:b≤l.length) (hl:l.length≤1152921504606846976) :
  Cio Tryz.prog 325 [.sl 0 k l.length,i64 a,i64 m,i64 b,.fn (.func f) fi cap] [.row k 3 1 (l.map tI)] (.tup []) [.row k 3 1 ((rot l a m b).map tI)]:=by
 refine ZEN Tryz.func325 Tryz.ntmps325 ?_
 repeat' (first|refine A0 ?_|fail)
 refine AW.loopP (fun (x:List Int × List Int × List Int × List Int × List Int)=>x.1=x.2.1++x.2.2.1++x.2.2.2.1++x.2.2.2.2∧x.2.1++x.2.2.2.1++x.2.2.1++x.2.2.2.2=rot l a m b∧x.2.1.length+x.2.2.1.length=m∧0<x.2.2.1.length∧0<x.2.2.2.1.length∧x.1.length=l.length) (fun (x:List Int × List Int × List Int × List Int × List Int)=>(pu (pu (pu (pu (pu (fun _=>.any) 0 (.sl 0 k l.length)) 2 (i64 m)) 4 (.fn (.func f) fi cap)) 10 (i64 (x.2.2.1.length:Nat))) 11 (i64 (x.2.2.2.1.length:Nat)))) (fun (x:List Int × List Int × List Int × List Int × List Int)=>[.row k 3 1 (x.1.map tI)]) (fun (x:List Int × List Int × List Int × List Int × List Int)=>x.2.2.1.length+x.2.2.2.1.length) ((l,l.take a,seg l a m,seg l m b,l.drop b)) ?_ ?_ ?_
 ·refine ⟨o2_ (by omega) (by omega),rfl,?_,?_,?_,rfl⟩
  ·dsimp only;rw [fY,BN (by omega)];omega
  ·dsimp only;rw [BN (by omega)];omega
  ·dsimp only;rw [BN (by omega)];omega
 ·rw [show ((seg l a m).length:Int)=(m:Int)-a by rw [BN (by omega)];omega,show ((seg l m b).length:Int)=(b:Int)-m by rw [BN (by omega)];omega]
  exact Wk.cq 1
 ·rintro ⟨M,P,X,Y,S⟩ ⟨h1,h2,h3,h4,h5,h6⟩
  dsimp only at h1 h2 h3 h4 h5 h6 ⊢
  have hML:P.length+X.length+Y.length+S.length=l.length:=by rw [←h6,h1];simp only [fP]
  have hMt:(M.map tI).length=l.length:=by rw [fN,h6]
  obtain ⟨p,hp⟩ : ∃p,p=P.length:=⟨_,rfl⟩
  have ep:(p:Int)=(m:Int)-(X.length:Nat):=by omega
  rcases mO X.length Y.length with hxy|hxy|hxy
  ·-- i<j
   obtain ⟨q,hq⟩ : ∃q,q=Y.length-X.length:=⟨_,rfl⟩
   have hY:Y=Y.take q++Y.drop q:=(jC _ _).symm
   have ly1:(Y.take q).length=q:=by rw [fY];omega
   have ly2:(Y.drop q).length=X.length:=by rw [gJ];omega
   have c1:=KD (.fn (.func f) fi cap) hup M k p (m+q) X.length (by omega) (by omega) (by omega)
   have e1:swr M p (m+q) X.length=P++Y.drop q++Y.take q++(X++S):=by
    have:=LU (P:=P) (X:=X) (M:=Y.take q) (Y:=Y.drop q) (S:=S) (a:=p) (b:=m+q) (n:=X.length) hp (by omega) rfl ly2.symm
    rw [h1]
    conv=>lhs;rw [hY]
    rw [←gC (P++X),this];simp [gC]
   rw [e1,h6,ep,show ((m+q:Nat):Int)=(m:Int)+(Y.length:Nat)-(X.length:Nat) by omega] at c1
   repeat' (first|refine Al ?_|fail)
   all_goals try exact ZE5
   refine ⟨(P++Y.drop q++Y.take q++(X++S),P,Y.drop q,Y.take q,X++S),⟨rfl,?_,by dsimp only;omega,by dsimp only;omega,by dsimp only;omega,?_⟩,by dsimp only;omega,?_⟩
   ·dsimp only;rw [←h2];conv=>rhs;rw [hY]
    simp [gC]
   ·dsimp only;simp only [fP,ly1,ly2];omega
   ·dsimp only;rw [ly1,ly2,show (q:Int)=(Y.length:Nat)-(X.length:Nat) by omega]
    exact Wk.cq 1
  ·-- i=j
   have c1:=KD (.fn (.func f) fi cap) hup M k p m X.length (by omega) (by omega) (by omega)
   have e1:swr M p m X.length=rot l a m b:=by
    have:=LU (P:=P) (X:=X) (M:=[]) (Y:=Y) (S:=S) (a:=p) (b:=m) (n:=X.length) hp bA rfl hxy
    rw [h1, ←h2]
    simpa using this
   rw [e1,h6,ep] at c1
   repeat' (first|refine Al ?_|fail)
   all_goals exact Ah Tryz.results325
  ·-- i>j
   obtain ⟨q,hq⟩ : ∃q,q=Y.length:=⟨_,rfl⟩
   have hX:X=X.take q++X.drop q:=(jC _ _).symm
   have lx1:(X.take q).length=q:=by rw [fY];omega
   have lx2:(X.drop q).length=X.length-Y.length:=by rw [gJ];omega
   have c1:=KD (.fn (.func f) fi cap) hup M k p m Y.length (by omega) (by omega) (by omega)
   have e1:swr M p m Y.length=(P++Y)++X.drop q++X.take q++S:=by
    have:=LU (P:=P) (X:=X.take q) (M:=X.drop q) (Y:=Y) (S:=S) (a:=p) (b:=m) (n:=Y.length) hp (by omega) (by omega) rfl
    rw [h1]
    conv=>lhs;rw [hX]
    rw [←gC P,this]
   rw [e1,h6,ep] at c1
   repeat' (first|refine Al ?_|fail)
   all_goals try exact ZE5
   refine ⟨((P++Y)++X.drop q++X.take q++S,P++Y,X.drop q,X.take q,S),⟨rfl,?_,?_,by dsimp only;omega,by dsimp only;omega,?_⟩,by dsimp only;omega,?_⟩
   ·dsimp only;rw [←h2];conv=>rhs;rw [hX]
    simp [gC]
   ·dsimp only;rw [fP,lx2];omega
   ·dsimp only;simp only [fP,lx1,lx2];omega
   ·dsimp only;rw [lx1,lx2,show ((X.length-Y.length:Nat):Int)=(X.length:Nat)-(Y.length:Nat) by omega,hq]
    exact Wk.cq 1
section
section
variable (f:FuncId) (fi cap:List AV) (key:Int→Int) (hup:upB (CM 1) (.fn (.func f) fi cap) = .fn (.func f) fi cap) (hps : ∀heap sel,BH heap sel (.fn (.func f) fi cap) (.fn (.func f) fi cap)) (k:Nat)
include hup in
theorem AgF (l:List Int) (a m b:Nat) (ham:m=a+1) (hmb:m<b) (hb:b≤l.length) (hl:l.length≤1152921504606846976) (hg:QK (.fn (.func f) fi cap) key l) (hs:BG key (seg l m b)) :
  Cio Tryz.prog 324 [.sl 0 k l.length,i64 a,i64 m,i64 b,.fn (.func f) fi cap] [.row k 3 1 (l.map tI)] (.tup []) [.row k 3 1 ((srt key l a b).map tI)]:=by
 have hlt:(l.map tI).length=l.length:=fN _
 obtain ⟨x,hx⟩ : ∃x,l[a]? = some x:=⟨_,ZgE (by omega)⟩
 have kx:=BO (key:=key) hx
 refine ZEN Tryz.func324 Tryz.ntmps324 ?_
 repeat' (first|refine A0 ?_|fail)
 all_goals try exact ZE5
 refine AW.loopP (fun (z:Int × Int)=>(m:Int)≤z.1∧z.1≤z.2∧z.2≤b∧((m:Int)<z.1→kat key l (z.1-1).toNat<kat key l a)∧(z.2<b→kat key l a≤kat key l z.2.toNat)) (fun (z:Int × Int)=>(pu (pu (pu (pu (pu (pu (pu (fun _=>.any) 0 (.sl 0 k l.length)) 1 (i64 a)) 2 (i64 m)) 3 (i64 b)) 4 (.fn (.func f) fi cap)) 10 (i64 z.1)) 11 (i64 z.2))) (fun (z:Int × Int)=>[.row k 3 1 (l.map tI)]) (fun (z:Int × Int)=>(z.2-z.1).toNat) (((m:Int),(b:Int))) ?_ ?_ ?_
 ·exact ⟨gL _,by dsimp only;omega,gL _,fun h=>by dsimp only at h;omega,fun h=>by dsimp only at h;omega⟩
 ·exact Wk.cq 1
 ·rintro ⟨i,j⟩ ⟨h1,h2,h3,h4,h5⟩
  dsimp only at h1 h2 h3 h4 h5 ⊢
  by_cases hij:i<j
  ·obtain ⟨y,hy⟩ : ∃y,l[((i+j)/2).toNat]? = some y:=⟨_,ZgE (by omega)⟩
   have ky:=BO (key:=key) hy
   obtain ⟨c,hc0,hcv⟩:=hg y (fO hy) x (fO hx)
   by_cases hk:key y<key x
   ·have hcn:=hc0.2 hk
    repeat' (first|(refine ZRG ?_;first|(refine kR 11 rfl ?_;first|refine CA rfl rfl rfl rfl (hcv) (acc:=_) rfl (fun h' hh=>by ((repeat (first|exact .nil|refine .cons ?_ ?_|exact .t _));(first|done|fail))) rfl rfl ?_))|refine Cp ?_|fail)
    all_goals try exact ZE5
    refine ⟨((i+j)/2+1,j),⟨by dsimp only;omega,by dsimp only;omega,h3,fun _=>?_,h5⟩,by dsimp only;omega,?_⟩
    ·dsimp only;rw [kA,ky,kx];exact hk
    ·exact Wk.cq 1
   ·have hcn : ¬c<0:=fun h=>hk (hc0.1 h)
    repeat' (first|(refine ZRG ?_;first|(refine kR 11 rfl ?_;first|refine CA rfl rfl rfl rfl (hcv) (acc:=_) rfl (fun h' hh=>by ((repeat (first|exact .nil|refine .cons ?_ ?_|exact .t _));(first|done|fail))) rfl rfl ?_))|refine Cp ?_|fail)
    all_goals try exact ZE5
    refine ⟨(i,(i+j)/2),⟨h1,by dsimp only;omega,by dsimp only;omega,h4,fun _=>?_⟩,by dsimp only;omega,?_⟩
    ·dsimp only;rw [ky,kx];omega
    ·exact Wk.cq 1
  ·obtain rfl:i=j:=by omega
   obtain ⟨i,rfl⟩ : ∃n:Nat,i=n:=⟨i.toNat,by omega⟩
   have hres:bub l a (i-(a+1))=srt key l a b:=VY (by omega) (by omega) hb (by rw [←ham];exact hs) (fun h=>by have:=h4 (by omega);rwa [show ((i:Int)-1).toNat=i-1 by omega] at this) (fun h=>by have:=h5 (by omega);rwa [gE] at this)
   repeat' (first|refine A0 ?_|fail)
   all_goals try exact ZE5
   refine AW.loopP (fun (z:Nat × List Int)=>z.1+1≤i∧z.2.length=l.length∧bub z.2 z.1 (i-(z.1+1))=srt key l a b) (fun (z:Nat × List Int)=>(pu (pu (pu (pu (fun _=>.any) 0 (.sl 0 k l.length)) 4 (.fn (.func f) fi cap)) 10 (i64 i)) 13 (i64 z.1))) (fun (z:Nat × List Int)=>[.row k 3 1 (z.2.map tI)]) (fun (z:Nat × List Int)=>i-z.1) ((a,l)) ?_ ?_ ?_
   ·exact ⟨by dsimp only;omega,rfl,hres⟩
   ·exact Wk.cq 1
   ·rintro ⟨q,M⟩ ⟨g1,g2,g3⟩
    dsimp only at g1 g2 g3 ⊢
    have hMt:(M.map tI).length=l.length:=by rw [fN,g2]
    by_cases hq:q+1<i
    ·have e1:((q:Int)+1).toNat=q+1:=by omega
     obtain ⟨x,hx⟩ : ∃x,M[q]? = some x:=⟨_,ZgE (by omega)⟩
     obtain ⟨y,hy⟩ : ∃y,M[((q:Int)+1).toNat]? = some y:=⟨_,ZgE (by omega)⟩
     have hy2:(M.set q y)[((q:Int)+1).toNat]? = some y:=by rw [jJ (by omega),hy]
     have hsw:=o5_ hx hy
     rw [show i-(q+1)=(i-(q+1+1))+1 by omega,bub,show swp M q (q+1)=swp M q ((q:Int)+1).toNat by rw [e1], ←hsw] at g3
     skip
     repeat' (first|refine uA ?_|refine uR ?_|refine uC ?_|refine AW.drawU (id:=11) mixed 0 qR ?_|fail)
     all_goals try exact ZE5
     refine ⟨(q+1,(M.set q y).set ((q:Int)+1).toNat x),⟨by dsimp only;omega,by simp [g2],g3⟩,by dsimp only;omega,?_⟩
     exact Wk.cq 1
    ·rw [show i-(q+1)=0 by omega,bub] at g3
     subst g3
     repeat' (first|refine A0 ?_|fail)
     all_goals exact Ah Tryz.results324
include hup in
theorem AgG (l:List Int) (a m b:Nat) (ham:a+1<m) (hmb:b=m+1) (hb:b≤l.length) (hl:l.length≤1152921504606846976) (hg:QK (.fn (.func f) fi cap) key l) (hs:BG key (seg l a m)) :
  Cio Tryz.prog 324 [.sl 0 k l.length,i64 a,i64 m,i64 b,.fn (.func f) fi cap] [.row k 3 1 (l.map tI)] (.tup []) [.row k 3 1 ((srt key l a b).map tI)]:=by
 have hlt:(l.map tI).length=l.length:=fN _
 obtain ⟨x,hx⟩ : ∃x,l[m]? = some x:=⟨_,ZgE (by omega)⟩
 have kx:=BO (key:=key) hx
 refine ZEN Tryz.func324 Tryz.ntmps324 ?_
 repeat' (first|refine A0 ?_|fail)
 all_goals try exact ZE5
 refine AW.loopP (fun (z:Int × Int)=>(a:Int)≤z.1∧z.1≤z.2∧z.2≤m∧((a:Int)<z.1→kat key l (z.1-1).toNat≤kat key l m)∧(z.2<m→kat key l m<kat key l z.2.toNat)) (fun (z:Int × Int)=>(pu (pu (pu (pu (pu (pu (pu (fun _=>.any) 0 (.sl 0 k l.length)) 1 (i64 a)) 2 (i64 m)) 3 (i64 b)) 4 (.fn (.func f) fi cap)) 14 (i64 z.1)) 15 (i64 z.2))) (fun (z:Int × Int)=>[.row k 3 1 (l.map tI)]) (fun (z:Int × Int)=>(z.2-z.1).toNat) (((a:Int),(m:Int))) ?_ ?_ ?_
 ·exact ⟨gL _,by dsimp only;omega,gL _,fun h=>by dsimp only at h;omega,fun h=>by dsimp only at h;omega⟩
 ·exact Wk.cq 1
 ·rintro ⟨i,j⟩ ⟨h1,h2,h3,h4,h5⟩
  dsimp only at h1 h2 h3 h4 h5 ⊢
  by_cases hij:i<j
  ·obtain ⟨y,hy⟩ : ∃y,l[((i+j)/2).toNat]? = some y:=⟨_,ZgE (by omega)⟩
   have ky:=BO (key:=key) hy
   obtain ⟨c,hc0,hcv⟩:=hg x (fO hx) y (fO hy)
   by_cases hk:key x<key y
   ·have hcn:=hc0.2 hk
    repeat' (first|(refine ZRG ?_;first|(refine kR 11 rfl ?_;first|refine CA rfl rfl rfl rfl (hcv) (acc:=_) rfl (fun h' hh=>by ((repeat (first|exact .nil|refine .cons ?_ ?_|exact .t _));(first|done|fail))) rfl rfl ?_))|refine Cq ?_|fail)
    all_goals try exact ZE5
    refine ⟨(i,(i+j)/2),⟨h1,by dsimp only;omega,by dsimp only;omega,h4,fun _=>?_⟩,by dsimp only;omega,?_⟩
    ·dsimp only;rw [ky,kx];exact hk
    ·exact Wk.cq 1
   ·have hcn : ¬c<0:=fun h=>hk (hc0.1 h)
    repeat' (first|(refine ZRG ?_;first|(refine kR 11 rfl ?_;first|refine CA rfl rfl rfl rfl (hcv) (acc:=_) rfl (fun h' hh=>by ((repeat (first|exact .nil|refine .cons ?_ ?_|exact .t _));(first|done|fail))) rfl rfl ?_))|refine Cq ?_|fail)
    all_goals try exact ZE5
    refine ⟨((i+j)/2+1,j),⟨by dsimp only;omega,by dsimp only;omega,h3,fun _=>?_,h5⟩,by dsimp only;omega,?_⟩
    ·dsimp only;rw [kA,ky,kx];omega
    ·exact Wk.cq 1
  ·obtain rfl:i=j:=by omega
   obtain ⟨i,rfl⟩ : ∃n:Nat,i=n:=⟨i.toNat,by omega⟩
   have hres:OB l m (m-i)=srt key l a b:=by
    rw [hmb]
    exact SZ (by omega) (by omega) (by omega) hs (fun h=>by have:=h4 (by omega);rwa [show ((i:Int)-1).toNat=i-1 by omega] at this) (fun h=>by have:=h5 (by omega);rwa [gE] at this)
   repeat' (first|refine A0 ?_|fail)
   all_goals try exact ZE5
   refine AW.loopP (fun (z:Int × List Int)=>(i:Int)≤z.1∧z.1≤m∧z.2.length=l.length∧OB z.2 z.1.toNat (z.1.toNat-i)=srt key l a b) (fun (z:Int × List Int)=>(pu (pu (pu (pu (fun _=>.any) 0 (.sl 0 k l.length)) 4 (.fn (.func f) fi cap)) 14 (i64 i)) 17 (i64 z.1))) (fun (z:Int × List Int)=>[.row k 3 1 (z.2.map tI)]) (fun (z:Int × List Int)=>(z.1-i).toNat) (((m:Int),l)) ?_ ?_ ?_
   ·exact ⟨by dsimp only;omega,by dsimp only;omega,rfl,hres⟩
   ·exact Wk.cq 1
   ·rintro ⟨q,M⟩ ⟨g1,g0,g2,g3⟩
    dsimp only at g1 g0 g2 g3 ⊢
    have hMt:(M.map tI).length=l.length:=by rw [fN,g2]
    by_cases hq:(i:Int)<q
    ·have e1:(q-1).toNat=q.toNat-1:=by omega
     obtain ⟨x,hx⟩ : ∃x,M[q.toNat]? = some x:=⟨_,ZgE (by omega)⟩
     obtain ⟨y,hy⟩ : ∃y,M[(q-1).toNat]? = some y:=⟨_,ZgE (by omega)⟩
     have hy2:(M.set q.toNat y)[(q-1).toNat]? = some y:=by rw [jJ (by omega),hy]
     have hsw:=o5_ hx hy
     rw [show q.toNat-i=((q-1).toNat-i)+1 by omega,OB,show swp M q.toNat (q.toNat-1)=swp M q.toNat (q-1).toNat by rw [e1], ←hsw, ←e1] at g3
     skip
     repeat' (first|refine uA ?_|refine uR ?_|refine uC ?_|refine AW.drawU (id:=23) mixed 0 qR ?_|fail)
     all_goals try exact ZE5
     refine ⟨(q-1,(M.set q.toNat y).set (q-1).toNat x),⟨by dsimp only;omega,by dsimp only;omega,by simp [g2],g3⟩,by dsimp only;omega,?_⟩
     exact Wk.cq 1
    ·rw [show q.toNat-i=0 by omega,OB] at g3
     subst g3
     repeat' (first|refine A0 ?_|fail)
     all_goals exact Ah Tryz.results324
include hup hps in
theorem AgH (l:List Int) (a m b:Nat) (ham:a+1<m) (hmb:m+1<b) (hb:b≤l.length) (hl:l.length≤1152921504606846976) (hg:QK (.fn (.func f) fi cap) key l) (hs1:BG key (seg l a m)) (hs2:BG key (seg l m b))
  (IH : ∀(l:List Int) (a' m' b':Nat),b'-a'<b-a→a'<m'→m'<b'→b'≤l.length→l.length≤1152921504606846976→QK (.fn (.func f) fi cap) key l→BG key (seg l a' m')→BG key (seg l m' b')→Cio Tryz.prog 324 [.sl 0 k l.length,i64 a',i64 m',i64 b',.fn (.func f) fi cap] [.row k 3 1 (l.map tI)] (.tup []) [.row k 3 1 ((srt key l a' b').map tI)]) :
  Cio Tryz.prog 324 [.sl 0 k l.length,i64 a,i64 m,i64 b,.fn (.func f) fi cap] [.row k 3 1 (l.map tI)] (.tup []) [.row k 3 1 ((srt key l a b).map tI)]:=by
 have hlt:(l.map tI).length=l.length:=fN _
 obtain ⟨mid,emid⟩ : ∃mid:Nat,((a:Int)+(b:Int))/2=mid:=⟨(a+b)/2,by omega⟩
 refine ZEN Tryz.func324 Tryz.ntmps324 ?_
 by_cases hmm:mid<m
 ·obtain ⟨lo,elo⟩ : ∃lo:Int,lo=(mid:Int)+m-b:=⟨_,rfl⟩
  obtain ⟨hi,ehi⟩ : ∃hi:Int,hi=(mid:Int):=⟨_,rfl⟩
  repeat' (first|refine Cr ?_|fail)
  all_goals try exact ZE5
  rw [emid]
  refine AW.loopP (fun (z:Int × Int)=>lo≤z.1∧z.1≤z.2∧z.2≤hi∧(lo<z.1→kat key l (z.1-1).toNat≤kat key l ((mid:Int)+m-1-(z.1-1)).toNat)∧(z.2<hi→kat key l ((mid:Int)+m-1-z.2).toNat<kat key l z.2.toNat)) (fun (z:Int × Int)=>(pu (pu (pu (pu (pu (pu (pu (pu (pu (pu (fun _=>.any) 0 (.sl 0 k l.length)) 1 (i64 a)) 2 (i64 m)) 3 (i64 b)) 4 (.fn (.func f) fi cap)) 18 (i64 mid)) 19 (i64 ((mid:Int)+m))) 20 (i64 z.1)) 21 (i64 z.2)) 22 (i64 ((mid:Int)+m-1)))) (fun (z:Int × Int)=>[.row k 3 1 (l.map tI)]) (fun (z:Int × Int)=>(z.2-z.1).toNat) ((lo,hi)) ?_ ?_ ?_
  ·exact ⟨gL _,by dsimp only;omega,gL _,fun h=>by dsimp only at h;omega,fun h=>by dsimp only at h;omega⟩
  ·subst elo ehi;exact Wk.cq 1
  ·rintro ⟨i,j⟩ ⟨h1,h2,h3,h4,h5⟩
   dsimp only at h1 h2 h3 h4 h5 ⊢
   by_cases hij:i<j
   ·obtain ⟨y,hy⟩ : ∃y,l[((i+j)/2).toNat]? = some y:=⟨_,ZgE (by omega)⟩
    obtain ⟨x,hx⟩ : ∃x,l[((mid:Int)+m-1-(i+j)/2).toNat]? = some x:=⟨_,ZgE (by omega)⟩
    have ky:=BO (key:=key) hy
    have kx:=BO (key:=key) hx
    obtain ⟨c,hc0,hcv⟩:=hg x (fO hx) y (fO hy)
    by_cases hk:key x<key y
    ·have hcn:=hc0.2 hk
     repeat' (first|(refine ZRG ?_;first|(refine kR 11 rfl ?_;first|refine CA rfl rfl rfl rfl (hcv) (acc:=_) rfl (fun h' hh=>by ((repeat (first|exact .nil|refine .cons ?_ ?_|exact .t _));(first|done|fail))) rfl rfl ?_))|refine Az ?_|fail)
     all_goals try exact ZE5
     refine ⟨(i,(i+j)/2),⟨h1,by dsimp only;omega,by dsimp only;omega,h4,fun _=>?_⟩,by dsimp only;omega,?_⟩
     ·dsimp only;rw [ky,kx];exact hk
     ·exact Wk.cq 1
    ·have hcn : ¬c<0:=fun h=>hk (hc0.1 h)
     repeat' (first|(refine ZRG ?_;first|(refine kR 11 rfl ?_;first|refine CA rfl rfl rfl rfl (hcv) (acc:=_) rfl (fun h' hh=>by ((repeat (first|exact .nil|refine .cons ?_ ?_|exact .t _));(first|done|fail))) rfl rfl ?_))|refine Az ?_|fail)
     all_goals try exact ZE5
     refine ⟨((i+j)/2+1,j),⟨by dsimp only;omega,by dsimp only;omega,h3,fun _=>?_,h5⟩,by dsimp only;omega,?_⟩
     ·dsimp only;rw [kA,ky,kx];omega
     ·exact Wk.cq 1
   ·obtain rfl:i=j:=by omega
    obtain ⟨st,rfl⟩ : ∃n:Nat,i=n:=⟨i.toNat,by omega⟩
    obtain ⟨en,een⟩ : ∃en:Nat,(mid:Int)+m-st=en:=⟨((mid:Int)+m-st).toNat,by omega⟩
    have q1:a≤st:=by omega
    have q2:st≤m:=by omega
    have q3:m≤en:=by omega
    have q4:en≤b:=by omega
    have q5:st≤mid:=by omega
    obtain ⟨s1,s2,s3,s4,s5⟩:=KJ (mid:=mid) q1 q2 q3 q4 hb (by omega) hs1 hs2 (fun g1 g2=>by
     have:=h4 (by omega)
     rwa [show ((st:Int)-1).toNat=st-1 by omega,show ((mid:Int)+m-1-((st:Int)-1)).toNat=en by omega] at this) (fun g1 g2=>by
     have:=h5 (by omega)
     rwa [show ((mid:Int)+m-1-(st:Int)).toNat=en-1 by omega,gE] at this)
    have n1 : ¬(st<m∧m<en)→l=rot l st m en:=fun h=>(NF q2 q3 h).symm
    have n2 : ¬(a<st∧st<mid)→rot l st m en=srt key (rot l st m en) a mid:=fun h=>by
     by_cases e:a=st
     ·subst e;exact (CH (by omega) s2).symm
     ·have e2:st=mid:=by omega
      subst e2;exact (CH q1 s1).symm
    have n3 : ¬(mid<en∧en<b)→srt key (rot l st m en) a mid=srt key l a b:=fun h=>by
     rw [←s5]
     by_cases e:mid=en
     ·subst e;exact (CH (by omega) s4).symm
     ·have e2:en=b:=by omega
      subst e2;exact (CH (by omega) s3).symm
    have v1 : ∀z∈rot l st m en,z∈l:=fun z hz=>RB hz
    have v2 : ∀z∈srt key (rot l st m en) a mid,z∈l:=fun z hz=>v1 z ((RI (by omega)).1 hz)
    have w1:(rot l st m en).length=l.length:=RA q2 q3 (by omega)
    have w2:(srt key (rot l st m en) a mid).length=l.length:=by rw [DV (by omega) (by omega),w1]
    have cR:st<m∧m<en→_:=fun h=>g6_ f fi cap hup hps l k st m en h.1 h.2 (by omega) hl
    have c2:a<st∧st<mid→_:=fun h=>IH (rot l st m en) a st mid (by omega) h.1 h.2 (by omega) (by omega) (hg.mono v1) s1 s2
    have c3:mid<en∧en<b→_:=fun h=>IH (srt key (rot l st m en) a mid) mid en b (by omega) h.1 h.2 (by omega) (by omega) (hg.mono v2) s3 s4
    rw [s5] at c3
    rw [w1] at c2
    rw [w2] at c3
    clear s1 s2 s3 s4 s5 v1 v2 w1 w2 h4 h5 hs1 hs2 hg
    generalize srt key l a b=L3 at *
    generalize srt key (rot l st m en) a mid=L2 at *
    generalize rot l st m en=L1 at *
    rw [←een] at cR c3
    have t1:(st<m∧m<en)∨(¬(st<m∧m<en)∧l=L1):=(kP _).imp id fun h=>⟨h,n1 h⟩
    have t2:(a<st∧st<mid)∨(¬(a<st∧st<mid)∧L1=L2):=(kP _).imp id fun h=>⟨h,n2 h⟩
    have t3:(mid<en∧en<b)∨(¬(mid<en∧en<b)∧L2=L3):=(kP _).imp id fun h=>⟨h,n3 h⟩
    clear n1 n2 n3
    rcases t1 with g1|⟨g1,rfl⟩<;>rcases t2 with g2|⟨g2,rfl⟩<;>rcases t3 with g3|⟨g3,rfl⟩
    all_goals try (exfalso;omega)
    all_goals
     repeat' (first|refine Fb ?_|fail)
     all_goals first|(exfalso;omega)|(exact Fin.q Tryz.results324 .nil [])
 ·obtain ⟨lo,elo⟩ : ∃lo:Int,lo=(a:Int):=⟨_,rfl⟩
  obtain ⟨hi,ehi⟩ : ∃hi:Int,hi=(m:Int):=⟨_,rfl⟩
  repeat' (first|refine Cr ?_|fail)
  all_goals try exact ZE5
  rw [emid]
  refine AW.loopP (fun (z:Int × Int)=>lo≤z.1∧z.1≤z.2∧z.2≤hi∧(lo<z.1→kat key l (z.1-1).toNat≤kat key l ((mid:Int)+m-1-(z.1-1)).toNat)∧(z.2<hi→kat key l ((mid:Int)+m-1-z.2).toNat<kat key l z.2.toNat)) (fun (z:Int × Int)=>(pu (pu (pu (pu (pu (pu (pu (pu (pu (pu (fun _=>.any) 0 (.sl 0 k l.length)) 1 (i64 a)) 2 (i64 m)) 3 (i64 b)) 4 (.fn (.func f) fi cap)) 18 (i64 mid)) 19 (i64 ((mid:Int)+m))) 20 (i64 z.1)) 21 (i64 z.2)) 22 (i64 ((mid:Int)+m-1)))) (fun (z:Int × Int)=>[.row k 3 1 (l.map tI)]) (fun (z:Int × Int)=>(z.2-z.1).toNat) ((lo,hi)) ?_ ?_ ?_
  ·exact ⟨gL _,by dsimp only;omega,gL _,fun h=>by dsimp only at h;omega,fun h=>by dsimp only at h;omega⟩
  ·subst elo ehi;exact Wk.cq 1
  ·rintro ⟨i,j⟩ ⟨h1,h2,h3,h4,h5⟩
   dsimp only at h1 h2 h3 h4 h5 ⊢
   by_cases hij:i<j
   ·obtain ⟨y,hy⟩ : ∃y,l[((i+j)/2).toNat]? = some y:=⟨_,ZgE (by omega)⟩
    obtain ⟨x,hx⟩ : ∃x,l[((mid:Int)+m-1-(i+j)/2).toNat]? = some x:=⟨_,ZgE (by omega)⟩
    have ky:=BO (key:=key) hy
    have kx:=BO (key:=key) hx
    obtain ⟨c,hc0,hcv⟩:=hg x (fO hx) y (fO hy)
    by_cases hk:key x<key y
    ·have hcn:=hc0.2 hk
     repeat' (first|(refine ZRG ?_;first|(refine kR 11 rfl ?_;first|refine CA rfl rfl rfl rfl (hcv) (acc:=_) rfl (fun h' hh=>by ((repeat (first|exact .nil|refine .cons ?_ ?_|exact .t _));(first|done|fail))) rfl rfl ?_))|refine Az ?_|fail)
     all_goals try exact ZE5
     refine ⟨(i,(i+j)/2),⟨h1,by dsimp only;omega,by dsimp only;omega,h4,fun _=>?_⟩,by dsimp only;omega,?_⟩
     ·dsimp only;rw [ky,kx];exact hk
     ·exact Wk.cq 1
    ·have hcn : ¬c<0:=fun h=>hk (hc0.1 h)
     repeat' (first|(refine ZRG ?_;first|(refine kR 11 rfl ?_;first|refine CA rfl rfl rfl rfl (hcv) (acc:=_) rfl (fun h' hh=>by ((repeat (first|exact .nil|refine .cons ?_ ?_|exact .t _));(first|done|fail))) rfl rfl ?_))|refine Az ?_|fail)
     all_goals try exact ZE5
     refine ⟨((i+j)/2+1,j),⟨by dsimp only;omega,by dsimp only;omega,h3,fun _=>?_,h5⟩,by dsimp only;omega,?_⟩
     ·dsimp only;rw [kA,ky,kx];omega
     ·exact Wk.cq 1
   ·obtain rfl:i=j:=by omega
    obtain ⟨st,rfl⟩ : ∃n:Nat,i=n:=⟨i.toNat,by omega⟩
    obtain ⟨en,een⟩ : ∃en:Nat,(mid:Int)+m-st=en:=⟨((mid:Int)+m-st).toNat,by omega⟩
    have q1:a≤st:=by omega
    have q2:st≤m:=by omega
    have q3:m≤en:=by omega
    have q4:en≤b:=by omega
    have q5:st≤mid:=by omega
    obtain ⟨s1,s2,s3,s4,s5⟩:=KJ (mid:=mid) q1 q2 q3 q4 hb (by omega) hs1 hs2 (fun g1 g2=>by
     have:=h4 (by omega)
     rwa [show ((st:Int)-1).toNat=st-1 by omega,show ((mid:Int)+m-1-((st:Int)-1)).toNat=en by omega] at this) (fun g1 g2=>by
     have:=h5 (by omega)
     rwa [show ((mid:Int)+m-1-(st:Int)).toNat=en-1 by omega,gE] at this)
    have n1 : ¬(st<m∧m<en)→l=rot l st m en:=fun h=>(NF q2 q3 h).symm
    have n2 : ¬(a<st∧st<mid)→rot l st m en=srt key (rot l st m en) a mid:=fun h=>by
     by_cases e:a=st
     ·subst e;exact (CH (by omega) s2).symm
     ·have e2:st=mid:=by omega
      subst e2;exact (CH q1 s1).symm
    have n3 : ¬(mid<en∧en<b)→srt key (rot l st m en) a mid=srt key l a b:=fun h=>by
     rw [←s5]
     by_cases e:mid=en
     ·subst e;exact (CH (by omega) s4).symm
     ·have e2:en=b:=by omega
      subst e2;exact (CH (by omega) s3).symm
    have v1 : ∀z∈rot l st m en,z∈l:=fun z hz=>RB hz
    have v2 : ∀z∈srt key (rot l st m en) a mid,z∈l:=fun z hz=>v1 z ((RI (by omega)).1 hz)
    have w1:(rot l st m en).length=l.length:=RA q2 q3 (by omega)
    have w2:(srt key (rot l st m en) a mid).length=l.length:=by rw [DV (by omega) (by omega),w1]
    have cR:st<m∧m<en→_:=fun h=>g6_ f fi cap hup hps l k st m en h.1 h.2 (by omega) hl
    have c2:a<st∧st<mid→_:=fun h=>IH (rot l st m en) a st mid (by omega) h.1 h.2 (by omega) (by omega) (hg.mono v1) s1 s2
    have c3:mid<en∧en<b→_:=fun h=>IH (srt key (rot l st m en) a mid) mid en b (by omega) h.1 h.2 (by omega) (by omega) (hg.mono v2) s3 s4
    rw [s5] at c3
    rw [w1] at c2
    rw [w2] at c3
    clear s1 s2 s3 s4 s5 v1 v2 w1 w2 h4 h5 hs1 hs2 hg
    generalize srt key l a b=L3 at *
    generalize srt key (rot l st m en) a mid=L2 at *
    generalize rot l st m en=L1 at *
    rw [←een] at cR c3
    have t1:(st<m∧m<en)∨(¬(st<m∧m<en)∧l=L1):=(kP _).imp id fun h=>⟨h,n1 h⟩
    have t2:(a<st∧st<mid)∨(¬(a<st∧st<mid)∧L1=L2):=(kP _).imp id fun h=>⟨h,n2 h⟩
    have t3:(mid<en∧en<b)∨(¬(mid<en∧en<b)∧L2=L3):=(kP _).imp id fun h=>⟨h,n3 h⟩
    clear n1 n2 n3
    rcases t1 with g1|⟨g1,rfl⟩<;>rcases t2 with g2|⟨g2,rfl⟩<;>rcases t3 with g3|⟨g3,rfl⟩
    all_goals try (exfalso;omega)
    all_goals
     repeat' (first|refine Fb ?_|fail)
     all_goals first|(exfalso;omega)|(exact Fin.q Tryz.results324 .nil [])
include hup hps in
theorem UF : ∀(N:Nat) (l:List Int) (a m b:Nat),b-a=N→a<m→m<b→b≤l.length→l.length≤1152921504606846976→QK (.fn (.func f) fi cap) key l→BG key (seg l a m)→BG key (seg l m b) →
  Cio Tryz.prog 324 [.sl 0 k l.length,i64 a,i64 m,i64 b,.fn (.func f) fi cap] [.row k 3 1 (l.map tI)] (.tup []) [.row k 3 1 ((srt key l a b).map tI)]:=by
 intro N
 induction N using Nat.strongRecOn with
 | _ N ih =>
  intro l a m b hN h1 h2 h3 h4 h5 h6 h7
  by_cases e1:m=a+1
  ·exact AgF f fi cap key hup k l a m b e1 h2 h3 h4 h5 h7
  ·by_cases e2:b=m+1
   ·exact AgG f fi cap key hup k l a m b (by omega) e2 h3 h4 h5 h6
   ·exact AgH f fi cap key hup hps k l a m b (by omega) (by omega) h3 h4 h5 h6 h7 fun l a' m' b' g0=>ih (b'-a') (by omega) l a' m' b' rfl
end
end
theorem AiP (f:FuncId) (fi cap:List AV) (key:Int→Int) (l:List Int) (k:Nat) (hl:l.length≤1152921504606846976) (hg:QK (.fn (.func f) fi cap) key l)
  (hup:upB (CM 1) (.fn (.func f) fi cap) = .fn (.func f) fi cap) (hps : ∀heap sel,BH heap sel (.fn (.func f) fi cap) (.fn (.func f) fi cap)) :
  Cio Tryz.prog 320 [.sl 0 k l.length,i64 l.length,.fn (.func f) fi cap] [.row k 3 1 (l.map tI)] (.tup []) [.row k 3 1 ((isort key l).map tI)]:=by
 refine ZEN Tryz.func320 Tryz.ntmps320 ?_
 repeat' (first|refine A0 ?_|fail)
 refine AW.loopP (fun (x:Nat × List Int)=>20∣x.1∧x.1≤l.length∧(∀c,20∣c→c<x.1→BG key (seg x.2 c (c+20)))∧SE key l x.2∧x.2.length=l.length) (fun (x:Nat × List Int)=>(pu (pu (pu (pu (pu (pu (fun _=>.any) 0 (.sl 0 k l.length)) 1 (i64 l.length)) 2 (.fn (.func f) fi cap)) 6 (i64 20)) 7 (i64 x.1)) 8 (i64 ((x.1+20:Nat):Int)))) (fun (x:Nat × List Int)=>[.row k 3 1 (x.2.map tI)]) (fun (x:Nat × List Int)=>l.length-x.1) ((0,l)) ?_ ?_ ?_
 ·exact ⟨Nat.dvd_zero _,fX _,fun c _ h=>by dsimp only at h;omega,SE.refl _,rfl⟩
 ·exact Wk.cq 1
 ·rintro ⟨a,M⟩ ⟨h2,h3,h4,h5,h6⟩
  dsimp only at h2 h3 h4 h5 h6 ⊢
  have hgM:=hg.mono fun x hx=>h5.mem.1 hx
  by_cases hb:a+20≤l.length
  ·have c1:=c5_ f fi cap key M k a (a+20) (by omega) (by omega) (by omega) hgM hup
   rw [h6] at c1
   repeat' (first|refine Al ?_|fail)
   all_goals try exact ZE5
   refine ⟨(a+20,srt key M a (a+20)),⟨nJ h2 (nA _),hb,ME h2 h4 (by omega),h5.trans (JF (by omega)),by dsimp only;rw [DV (by omega) (by omega),h6]⟩,by dsimp only;omega,?_⟩
   exact Wk.cq 1
  ·have c1:=c5_ f fi cap key M k a l.length (by omega) (by omega) (by omega) hgM hup
   have f1:=MD h2 h4 (by omega) (by omega)
   have f2:=h5.trans (JF (key:=key) (l:=M) (a:=a) (b:=l.length) (by omega))
   have f3:=DV (key:=key) (l:=M) (a:=a) (b:=l.length) (by omega) (by omega)
   rw [h6] at c1 f1 f3
   clear h4 h5 hgM
   generalize srt key M a l.length=M1 at *
   repeat' (first|refine Al ?_|fail)
   all_goals try exact ZE5
   refine AW.loopP (fun (y:Nat × List Int)=>0<y.1∧y.1≤2*l.length+20∧(∀c,y.1∣c→BG key (seg y.2 c (c+y.1)))∧SE key l y.2∧y.2.length=l.length) (fun (y:Nat × List Int)=>(pu (pu (pu (pu (fun _=>.any) 0 (.sl 0 k l.length)) 1 (i64 l.length)) 2 (.fn (.func f) fi cap)) 6 (i64 y.1))) (fun (y:Nat × List Int)=>[.row k 3 1 (y.2.map tI)]) (fun (y:Nat × List Int)=>l.length+1-y.1) ((20,M1)) ?_ ?_ ?_
   ·exact ⟨by dsimp only;omega,by dsimp only;omega,f1,f2,f3⟩
   ·exact Wk.cq 1
   ·rintro ⟨d,M2⟩ ⟨g1,g2,g3,g4,g5⟩
    dsimp only at g1 g2 g3 g4 g5 ⊢
    by_cases hd:d<l.length
    ·repeat' (first|refine A0 ?_|fail)
     all_goals try exact ZE5
     refine AW.loopP (fun (z:Nat × Nat × List Int)=>2*d∣z.1∧z.1≤l.length∧z.2.1=z.1+2*d∧(∀c,2*d∣c→c<z.1→BG key (seg z.2.2 c (c+2*d)))∧(∀c,d∣c→z.1≤c→BG key (seg z.2.2 c (c+d)))∧SE key l z.2.2∧z.2.2.length=l.length) (fun (z:Nat × Nat × List Int)=>(pu (pu (pu (pu (pu (pu (fun _=>.any) 0 (.sl 0 k l.length)) 1 (i64 l.length)) 2 (.fn (.func f) fi cap)) 6 (i64 d)) 7 (i64 z.1)) 8 (i64 z.2.1))) (fun (z:Nat × Nat × List Int)=>[.row k 3 1 (z.2.2.map tI)]) (fun (z:Nat × Nat × List Int)=>l.length-z.1) ((0,2*d,M2)) ?_ ?_ ?_
     ·exact ⟨Nat.dvd_zero _,fX _,by dsimp only;omega,fun c _ h=>by dsimp only at h;omega,fun c hc _=>g3 c hc,g4,g5⟩
     ·exact Wk.cq 1
     ·rintro ⟨a,b,M3⟩ ⟨k1,k2,k3,k4,k5,k6,k7⟩
      dsimp only at k1 k2 k3 k4 k5 k6 k7 ⊢
      have hgM:=hg.mono fun x hx=>k6.mem.1 hx
      have kd:d∣a:=Nat.dvd_trans (Nat.dvd_mul_left _ _) k1
      have kd2:d∣a+d:=nJ kd (nA _)
      have t1:=k5 a kd (fV _)
      have t2:=k5 (a+d) kd2 (by omega)
      by_cases hb:b≤l.length
      ·have cM:=UF f fi cap key hup hps k _ M3 a (a+d) b rfl (by omega) (by omega) (by omega) (by omega) hgM t1 (by rwa [show a+d+d=b by omega] at t2)
       rw [k7] at cM
       have u1 : ∀c,2*d∣c→c<b→BG key (seg (srt key M3 a b) c (c+2*d)):=by have:=ME k1 k4 (by omega);rwa [←k3] at this
       have u2:=RW (b:=b) k5 (by omega) (by omega)
       have u3:=k6.trans (JF (key:=key) (l:=M3) (a:=a) (b:=b) (by omega))
       have u4:=DV (key:=key) (l:=M3) (a:=a) (b:=b) (by omega) (by omega)
       rw [k7] at u4
       generalize srt key M3 a b=M4 at *
       repeat' (first|refine Cs ?_|fail)
       all_goals try exact ZE5
       refine ⟨(b,b+2*d,M4),⟨by dsimp only;rw [k3];exact nJ k1 (nA _),hb,rfl,u1,u2,u3,u4⟩,by dsimp only;omega,?_⟩
       exact Wk.cq 1
      ·by_cases hm:a+d<l.length
       ·have cM:=UF f fi cap key hup hps k _ M3 a (a+d) l.length rfl (by omega) (by omega) (by omega) (by omega) hgM t1 (by rwa [NI (c:=l.length) (by omega) (by omega)] at t2)
        rw [k7] at cM
        have u1 : ∀c,2*d∣c→BG key (seg (srt key M3 a l.length) c (c+2*d)):=by have:=MD k1 k4 (by omega) (by omega);rwa [k7] at this
        have u3:=k6.trans (JF (key:=key) (l:=M3) (a:=a) (b:=l.length) (by omega))
        have u4:=DV (key:=key) (l:=M3) (a:=a) (b:=l.length) (by omega) (by omega)
        rw [k7] at u4
        rw [lU] at u1
        generalize srt key M3 a l.length=M4 at *
        repeat' (first|refine Cs ?_|fail)
        all_goals try exact ZE5
        refine ⟨(d*2,M4),⟨by dsimp only;omega,by dsimp only;omega,u1,u3,u4⟩,by dsimp only;omega,?_⟩
        exact Wk.cq 1
       ·have u1 : ∀c,2*d∣c→BG key (seg M3 c (c+2*d)):=a_ k1 k4 k5 (by omega)
        rw [lU] at u1
        repeat' (first|refine A0 ?_|fail)
        all_goals try exact ZE5
        refine ⟨(d*2,M3),⟨by dsimp only;omega,by dsimp only;omega,u1,k6,k7⟩,by dsimp only;omega,?_⟩
        exact Wk.cq 1
    ·rw [q6_ g3 g4 (by omega)]
     repeat' (first|refine A0 ?_|fail)
     all_goals exact Ah Tryz.results320
theorem ZB (f:FuncId) (fi cap:List AV) (key:Int→Int) (l:List Int) (k:Nat) (hl:l.length≤1152921504606846976) (hg:QK (.fn (.func f) fi cap) key l)
  (hup:upB (CM 1) (.fn (.func f) fi cap) = .fn (.func f) fi cap) (hps : ∀heap sel,BH heap sel (.fn (.func f) fi cap) (.fn (.func f) fi cap)) :
  Cio Tryz.prog 314 [.sl 0 k l.length,.fn (.func f) fi cap] [.row k 3 1 (l.map tI)] (.tup []) [.row k 3 1 ((isort key l).map tI)]:=by
 have hlt:(l.map tI).length=l.length:=fN _
 have c1:=AiP f fi cap key l k hl hg hup hps
 refine ZEN Tryz.func314 Tryz.ntmps314 ?_
 repeat' (first|refine Fc ?_|fail)
 all_goals (exact Fin.q Tryz.results314 .nil [])
end
end Go.Proofs.YtccefppppedgkaaGreat
