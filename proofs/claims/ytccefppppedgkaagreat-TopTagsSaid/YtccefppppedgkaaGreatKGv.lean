/- Joined: XTShutR, XTStartG, XTWords, XTRef08, XTLifo, XTPOps, XTSortO, XTReadC, XTClipC. -/
import Derived.Test.YtccefppppedgkaaGreatKGr
set_option linter.unusedVariables false
set_option linter.unusedSimpArgs false
set_option linter.unnecessarySimpa false
set_option maxRecDepth 100000
set_option maxHeartbeats 64000000
namespace Go.Proofs.YtccefppppedgkaaGreat
open Go.RowKit
section
attribute [local irreducible] AL AW RG Fin C Cd Cio AI AF AN
section
attribute [local simp] DL CM
end
end
section
attribute [local irreducible] AL AW RG Fin C Cd Cio AI AF AN
def KN (cap:Int) (l:List Int) (k v:Int):List Int × Rst :=
 if k=8∧(l.length:Int)<cap then (l++[v],⟨0,0,0,0⟩)
 else if k=9∧0<(l.length:Int) then (l.take (l.length-1),⟨0,0,0,l.getD (l.length-1) 0⟩)
 else if k=8∨k=9 then (l,⟨0,0,10,0⟩)
 else if k=5 then (l,⟨0,0,0,l.length⟩)
 else if k=6 then (l,⟨0,0,0,cap⟩)
 else (l,⟨0,0,1,0⟩)
theorem z5_ (cap:Int) (l:List Int) (d:List Rst) (t s k v:Int):GD true cap l d t s k v=((KN cap l k v).1,JA d t ⟨s,(KN cap l k v).2.cas,(KN cap l k v).2.code,(KN cap l k v).2.value⟩):=by
 unfold GD KN
 by_cases h8:k=8
 ·subst h8
  by_cases h:(l.length:Int)≥cap
  ·simp [h,show ¬(l.length:Int)<cap by omega]
  ·simp [h,show (l.length:Int)<cap by omega]
 ·by_cases h9:k=9
  ·subst h9
   by_cases h:l.length=0
   ·have:l=[]:=gT h
    subst this;simp
   ·have h':l≠[]:=by rintro rfl;simp at h
    simp [h',show (0<l.length) by omega]
  ·simp only [h8,h9,lV,or_self,jC]
   repeat' split
   all_goals rfl
theorem AtA (cap:Int) (l:List Int) (k ar v:Int) (hl:l.length≤17592186044400) :
  Cd Tryz.prog 281 [.ln (l.map tI),i64 cap,.agg [i64 k,i64 ar,i64 v,.any,.any]] (.tup [.sl 0 0 (KN cap l k v).1.length,.agg ((tR (KN cap l k v).2).map .t)]) [.row 0 3 1 ((KN cap l k v).1.map tI)]:=by
 have h1:(l.map tI).length=l.length:=fH _
 refine ZEN Tryz.func281 Tryz.ntmps281 ?_
 repeat' (first|(refine ZAL ?_;first|(refine kL 2634 rfl ?_;first|(refine uK (AR l ?zq0) ?_;(case zq0=>omega))|(refine uK (AR (l.take _) ?zq0) ?_;(case zq0=>simp;omega)))|refine uA ?_)|(refine ZRG ?_;first|(refine kR 2634 rfl ?_;first|(first|(refine uQ (AR l ?zq0) 0 ?_;(case zq0=>omega))|(refine uQ (AR l ?zq0) 1 ?_;(case zq0=>omega))|(refine uQ (AR l ?zq0) 2 ?_;(case zq0=>omega))|(refine uQ (AR l ?zq0) 3 ?_;(case zq0=>omega))|(refine uQ (AR l ?zq0) 4 ?_;(case zq0=>omega))|(refine uQ (AR l ?zq0) 5 ?_;(case zq0=>omega))|(refine uQ (AR l ?zq0) 6 ?_;(case zq0=>omega))|(refine uQ (AR l ?zq0) 7 ?_;(case zq0=>omega))|(refine uQ (AR l ?zq0) 8 ?_;(case zq0=>omega))|(refine uQ (AR l ?zq0) 9 ?_;(case zq0=>omega))|(refine uQ (AR l ?zq0) 10 ?_;(case zq0=>omega))|(refine uQ (AR l ?zq0) 11 ?_;(case zq0=>omega))|(refine uQ (AR l ?zq0) 12 ?_;(case zq0=>omega))|(refine uQ (AR l ?zq0) 13 ?_;(case zq0=>omega)))|(first|(refine uQ (AR (l.take _) ?zq0) 0 ?_;(case zq0=>simp;omega))|(refine uQ (AR (l.take _) ?zq0) 1 ?_;(case zq0=>simp;omega))|(refine uQ (AR (l.take _) ?zq0) 2 ?_;(case zq0=>simp;omega))|(refine uQ (AR (l.take _) ?zq0) 3 ?_;(case zq0=>simp;omega))|(refine uQ (AR (l.take _) ?zq0) 4 ?_;(case zq0=>simp;omega))|(refine uQ (AR (l.take _) ?zq0) 5 ?_;(case zq0=>simp;omega))|(refine uQ (AR (l.take _) ?zq0) 6 ?_;(case zq0=>simp;omega))|(refine uQ (AR (l.take _) ?zq0) 7 ?_;(case zq0=>simp;omega))|(refine uQ (AR (l.take _) ?zq0) 8 ?_;(case zq0=>simp;omega))|(refine uQ (AR (l.take _) ?zq0) 9 ?_;(case zq0=>simp;omega))|(refine uQ (AR (l.take _) ?zq0) 10 ?_;(case zq0=>simp;omega))|(refine uQ (AR (l.take _) ?zq0) 11 ?_;(case zq0=>simp;omega))|(refine uQ (AR (l.take _) ?zq0) 12 ?_;(case zq0=>simp;omega))|(refine uQ (AR (l.take _) ?zq0) 13 ?_;(case zq0=>simp;omega))))|refine Ey ?_|refine uR ?_)|refine uC ?_|(first|refine AW.drawU (id:=3) mixed 4 qR ?_|refine AW.drawU (id:=5) mixed 2 qR ?_)|refine uS 15 (fun hb=>?_) (fun hb=>?_)|refine uS 31 (fun hb=>?_) (fun hb=>?_)|refine ZK2 (fun hc=>?_) (fun hc=>?_)|fail)
 all_goals ((refine Fin.mkv (rs:=_) Tryz.results281 (.cons (.tmp rfl) (.cons (.agg rfl rfl ud53 rfl inf53 (us:=[_,_,_,_]) rfl rfl) .nil)) [2] (by decide) rfl ?_ ?_ ?_<;>repeat' (first|exact ZE1|refine ZE2 ?_ ?_|refine ZE3 ?_|exact ZE4|fail)))
 all_goals (try simp only [fH] at *)
 all_goals (unfold KN;repeat (first|rw [fL (by omega)]|rw [fM (by omega)]))
 all_goals first|rfl|(simp [show ((l.length:Int)-1).toNat=l.length-1 by omega];done)
theorem ZU (cap:Int) (l:List Int) (d:List Rst) (t s k ar v:Int) (hl:l.length≤17592186044400) (hd:d.length≤4398046511104) :
  Cd Tryz.prog 269 [.agg [i64 cap,.ln (l.map tI),.ln (d.map tR)],i64 t,i64 s,.agg [i64 k,i64 ar,i64 v,.any,.any]]
   (.agg [i64 cap,.sl 0 0 (GD true cap l d t s k v).1.length,.sl 1 0 d.length]) [.row 0 3 1 ((GD true cap l d t s k v).1.map tI),.row 0 53 4 ((GD true cap l d t s k v).2.map tR)]:=by
 rw [z5_]
 simp only
 generalize hst:KN cap l k v=st
 obtain ⟨l',r⟩:=st
 have hs:=AtA cap l k ar v hl
 rw [hst] at hs
 by_cases h0:0≤t
 ·by_cases h1:t<d.length
  ·rw [d5_ h0 h1]
   obtain ⟨i,rfl⟩:=Int.eq_ofNat_of_zero_le h0
   rw [fW]
   have h2:i<d.length:=by omega
   obtain ⟨x,hx⟩ : ∃x,d[i]? = some x:=⟨_,ZgE h2⟩
   refine ZEN Tryz.func269 Tryz.ntmps269 ?_
   repeat' (first|refine Dr ?_|fail)
   all_goals (exact Dt Tryz.results269)
  ·rw [QC (fun h=>h1 h.2)]
   refine ZEN Tryz.func269 Tryz.ntmps269 ?_
   repeat' (first|refine Dr ?_|fail)
   all_goals (exact Dt Tryz.results269)
 ·rw [QC (fun h=>h0 h.1)]
  refine ZEN Tryz.func269 Tryz.ntmps269 ?_
  repeat' (first|refine Dr ?_|fail)
  all_goals (exact Dt Tryz.results269)
abbrev aOp (x:DOp):AV:=.agg [i64 x.thread,i64 x.seq,i64 x.phase,i64 x.req.kind,i64 x.req.arg,i64 x.req.value,bo x.req.dflt,.t (.lst (x.req.cases.map tCs))]
def FC (g:AV) (key:DOp→Int) (l:List DOp):Prop:=∀x∈l,∀y∈l,∃c:Int,(c<0↔key x<key y)∧CV Tryz.prog g [aOp x,aOp y] (i64 c) []
theorem FC.mono {g:AV} {key:DOp→Int} {l m:List DOp} (h:FC g key l) (k : ∀x∈m,x∈l):FC g key m:=fun x hx y hy=>h x (k x hx) y (k y hy)
theorem RF (f:FuncId) (fi cap:List AV) (key:DOp→Int) (l:List DOp) (k a b:Nat) (hab:a≤b) (hb:b≤l.length) (hl:l.length≤1152921504606846976) (hg:FC (.fn (.func f) fi cap) key l)
  (hup:upB (CK 1) (.fn (.func f) fi cap) = .fn (.func f) fi cap) :
  Cio Tryz.prog 266 [.sl 0 k l.length,i64 a,i64 b,.fn (.func f) fi cap] [.row k 65 8 (l.map tOp)] (.tup []) [.row k 65 8 ((srt key l a b).map tOp)]:=by
 refine ZEN Tryz.func266 Tryz.ntmps266 ?_
 repeat' (first|refine A0 ?_|fail)
 refine AW.loopP (fun (x:Nat × List DOp)=>(b≤x.1∧x.1≤b+1∧x.2=srt key l a b)∨(a<x.1∧x.1≤b∧x.2=srt key l a x.1)) (fun (x:Nat × List DOp)=>(pu (pu (pu (pu (pu (fun _=>.any) 0 (.sl 0 k l.length)) 1 (i64 a)) 2 (i64 b)) 3 (.fn (.func f) fi cap)) 8 (i64 x.1))) (fun (x:Nat × List DOp)=>[.row k 65 8 (x.2.map tOp)]) (fun (x:Nat × List DOp)=>b+1-x.1) ((a+1,l)) ?_ ?_ ?_
 ·by_cases h:a<b
  ·exact .inr ⟨by dsimp only;omega,by dsimp only;omega,(r9_ (l:=l) (by omega)).symm⟩
  ·obtain rfl:a=b:=by omega
   exact .inl ⟨by dsimp only;omega,by dsimp only;omega,d8_.symm⟩
 ·exact Wk.cq 1
 ·rintro ⟨i,M⟩ hi
  dsimp only at hi ⊢
  by_cases hib:i<b
  ·obtain ⟨h1,h2,h3⟩:a<i∧i≤b∧M=srt key l a i:=by
    rcases hi with hi|hi
    ·omega
    ·exact hi
   obtain ⟨x,hx⟩ : ∃x,l[i]? = some x:=⟨_,ZgE (by omega)⟩
   obtain ⟨S,hS⟩ : ∃S,isort key ((l.drop a).take (i-a))=S:=⟨_,rfl⟩
   have hSl:S.length=i-a:=by rw [←hS,CC,fQ,gD];omega
   have hSs:BF key S:=by rw [←hS];exact (DJ _ _).1
   have hSm : ∀z∈S,z∈l:=fun z hz=>by rw [←hS] at hz;exact gW (iH (ED.1 hz))
   have hxl:x∈l:=fI hx
   have hnew:srt key l a (i+1)=l.take a++GF key x S++l.drop (i+1):=by unfold srt;rw [SL (by omega) hx,FU,hS]
   have hM:M=l.take a++S++x::l.drop (i+1):=by rw [h3, ←FP hx, ←hS];rfl
   clear h3 hi
   have hta:(l.take a).length=a:=by rw [fQ];omega
   repeat' (first|refine A0 ?_|fail)
   all_goals try exact ZE5
   refine AW.loopP (fun (y:Int × List DOp × List DOp × List DOp)=>y.1=a+y.2.2.1.length∧y.2.2.1++y.2.2.2=S∧(∀z∈y.2.2.2,key x<key z)∧y.2.1=l.take a++y.2.2.1++x::(y.2.2.2++l.drop (i+1))) (fun (y:Int × List DOp × List DOp × List DOp)=>(pu (pu (pu (pu (pu (pu (fun _=>.any) 0 (.sl 0 k l.length)) 1 (i64 a)) 2 (i64 b)) 3 (.fn (.func f) fi cap)) 8 (i64 i)) 9 (i64 y.1))) (fun (y:Int × List DOp × List DOp × List DOp)=>[.row k 65 8 (y.2.1.map tOp)]) (fun (y:Int × List DOp × List DOp × List DOp)=>y.2.2.1.length) (((i:Int),M,S,[])) ?_ ?_ ?_
   ·exact ⟨by dsimp only;omega,by simp,by simp,by simpa using hM⟩
   ·exact Wk.cq 1
   ·rintro ⟨j,M,S1,S2⟩ ⟨h4,h5,h6,h7⟩
    dsimp only at h4 h5 h6 h7 ⊢
    have hS12:S1.length+S2.length=i-a:=by rw [←hSl, ←h5,fJ]
    have hMl:M.length=l.length:=by rw [h7];simp only [fJ,fY,gD,hta];omega
    have hMt:(M.map tOp).length=l.length:=by rw [fH,hMl]
    have hP:(l.take a++S1).length=j.toNat:=by rw [fJ,hta];omega
    have hxj:M[j.toNat]? = some x:=by rw [h7,fV (by omega),hP,kS];rfl
    by_cases hS1:S1=[]
    ·subst hS1
     simp only [gB] at h4 hS12
     have hn2:srt key l a (i+1)=M:=by rw [hnew, ←h5,JU (fun _ h=>by simp at h) h6,h7];simp
     repeat' (first|refine Cg ?_|fail)
     all_goals try exact ZE5
     refine ⟨(i+1,M),.inr ⟨by dsimp only;omega,by dsimp only;omega,hn2.symm⟩,by dsimp only;omega,?_⟩
     exact Wk.cq 1
    ·obtain ⟨S0,y,rfl⟩ : ∃S0 y,S1=S0++[y]:=⟨_,_,(lU hS1).symm⟩
     have hyS:y∈S:=by rw [←h5];simp
     have hyl:=hSm y hyS
     simp only [fJ,gQ] at h4 hS12
     have hP0:(l.take a++S0).length=(j-1).toNat:=by rw [fJ,hta];omega
     have h8:M=(l.take a++S0)++y::x::(S2++l.drop (i+1)):=by rw [h7];simp
     have hyj:M[(j-1).toNat]? = some y:=by rw [h8,fV (by omega),hP0,kS];rfl
     obtain ⟨c,hc0,hcv⟩:=hg x hxl y hyl
     by_cases hk:key x<key y
     ·have hcn:=hc0.2 hk
      have hsw:(M.set j.toNat y).set (j-1).toNat x=l.take a++S0++x::y::(S2++l.drop (i+1)):=by rw [h8];exact XW (by omega) (by omega)
      have hyj2:(M.set j.toNat y)[(j-1).toNat]? = some y:=by rw [jG (by omega),hyj]
      repeat' (first|(refine ZRG ?_;first|(refine kR 11 rfl ?_;first|refine BZ rfl rfl rfl rfl (hcv) (acc:=_) rfl (fun h' hh=>by ((repeat (first|exact .nil|refine .cons ?_ ?_|exact .t _|refine .aggL ?_));(first|done|fail))) rfl rfl ?_))|refine uA ?_|refine uR ?_|refine uC ?_|(first|refine AW.drawU (id:=4) mixed 2 qR ?_|refine AW.drawU (id:=6) mixed 0 qR ?_)|fail)
      all_goals try exact ZE5
      rw [hsw]
      refine ⟨(j-1,l.take a++S0++x::y::(S2++l.drop (i+1)),S0,y::S2),⟨by dsimp only;omega,by rw [←h5];simp,fun z hz=>?_,rfl⟩,by simp,?_⟩
      ·rcases iE.1 hz with rfl|hz
       ·exact hk
       ·exact h6 z hz
      ·exact Wk.cq 1
     ·have hcn : ¬c<0:=fun h=>hk (hc0.1 h)
      have hn2:srt key l a (i+1)=M:=by
       rw [hnew, ←h5,JU (fun z hz=>?_) h6,h7]
       ·simp
       ·rw [←h5,fS] at hSs
        have hp:=(lI.1 hSs).2.2
        rcases gJ.1 hz with hz|hz
        ·have:=hp z hz y (by simp);omega
        ·simp at hz;subst hz;exact hk
      repeat' (first|(refine ZRG ?_;first|(refine kR 11 rfl ?_;first|refine BZ rfl rfl rfl rfl (hcv) (acc:=_) rfl (fun h' hh=>by ((repeat (first|exact .nil|refine .cons ?_ ?_|exact .t _|refine .aggL ?_));(first|done|fail))) rfl rfl ?_))|refine Cg ?_|fail)
      all_goals try exact ZE5
      refine ⟨(i+1,M),.inr ⟨by dsimp only;omega,by dsimp only;omega,hn2.symm⟩,by dsimp only;omega,?_⟩
      exact Wk.cq 1
  ·have hM:M=srt key l a b:=by
    rcases hi with ⟨_,_,h⟩|⟨_,h2,h⟩
    ·exact h
    ·obtain rfl:i=b:=by omega
     exact h
   subst hM
   repeat' (first|refine A0 ?_|fail)
   all_goals exact Ah Tryz.results266
theorem SR {l:List DOp} {i j:Nat} {x y:DOp} (hx:l[i]? = some x) (hy:l[j]? = some y):(l.set i y).set j x=swp l i j:=by
 unfold swp;rw [fK,fK,hx,hy];rfl
theorem GZ (g:AV) (hup:upB (CK 1) g=g) (l:List DOp) (k a b n:Nat) (hab:a+n≤b) (hb:b+n≤l.length) (hl:l.length≤1152921504606846976) :
  Cio Tryz.prog 293 [.sl 0 k l.length,i64 a,i64 b,i64 n,g] [.row k 65 8 (l.map tOp)] (.tup []) [.row k 65 8 ((swr l a b n).map tOp)]:=by
 refine ZEN Tryz.func293 Tryz.ntmps293 ?_
 repeat' (first|refine A0 ?_|fail)
 refine AW.loopP (fun (x:Nat × List DOp)=>x.1≤n∧x.2.length=l.length∧swr x.2 (a+x.1) (b+x.1) (n-x.1)=swr l a b n) (fun (x:Nat × List DOp)=>(pu (pu (pu (pu (pu (fun _=>.any) 0 (.sl 0 k l.length)) 1 (i64 a)) 2 (i64 b)) 3 (i64 n)) 10 (i64 x.1))) (fun (x:Nat × List DOp)=>[.row k 65 8 (x.2.map tOp)]) (fun (x:Nat × List DOp)=>n-x.1) ((0,l)) ?_ ?_ ?_
 ·exact ⟨fO _,rfl,rfl⟩
 ·exact Wk.cq 1
 ·rintro ⟨i,M⟩ ⟨h1,h2,h3⟩
  dsimp only at h1 h2 h3 ⊢
  have hMt:(M.map tOp).length=l.length:=by rw [fH,h2]
  by_cases hi:i<n
  ·have e1:((a:Int)+(i:Int)).toNat=a+i:=by omega
   have e2:((b:Int)+(i:Int)).toNat=b+i:=by omega
   obtain ⟨x,hx⟩ : ∃x,M[((a:Int)+(i:Int)).toNat]? = some x:=⟨_,ZgE (by omega)⟩
   obtain ⟨y,hy⟩ : ∃y,M[((b:Int)+(i:Int)).toNat]? = some y:=⟨_,ZgE (by omega)⟩
   have hy2:(M.set ((a:Int)+(i:Int)).toNat y)[((b:Int)+(i:Int)).toNat]? = some y:=by rw [jG (by omega),hy]
   have hs:=SR hx hy
   rw [show n-i=(n-(i+1))+1 by omega,swr, ←e1, ←e2, ←hs,e1,e2] at h3
   skip
   repeat' (first|refine Dm ?_|fail)
   all_goals try exact ZE5
   refine ⟨(i+1,(M.set ((a:Int)+(i:Int)).toNat y).set ((b:Int)+(i:Int)).toNat x),⟨by dsimp only;omega,by simp [h2],by dsimp only;rw [←h3,e1,e2];rfl⟩,by dsimp only;omega,?_⟩
   exact Wk.cq 1
  ·obtain rfl:i=n:=by omega
   rw [kS,swr] at h3
   subst h3
   repeat' (first|refine A0 ?_|fail)
   all_goals exact Ah Tryz.results293
theorem SK (f:FuncId) (fi cap:List AV) (hup:upB (CK 1) (.fn (.func f) fi cap) = .fn (.func f) fi cap) (hps : ∀heap sel,BG heap sel (.fn (.func f) fi cap) (.fn (.func f) fi cap)) (l:List DOp) (k a m b:Nat) (ham:a<m) (hmb:m<b) (hb:b≤l.length) (hl:l.length≤1152921504606846976) :
  Cio Tryz.prog 278 [.sl 0 k l.length,i64 a,i64 m,i64 b,.fn (.func f) fi cap] [.row k 65 8 (l.map tOp)] (.tup []) [.row k 65 8 ((rot l a m b).map tOp)]:=by
 refine ZEN Tryz.func278 Tryz.ntmps278 ?_
 repeat' (first|refine A0 ?_|fail)
 refine AW.loopP (fun (x:List DOp × List DOp × List DOp × List DOp × List DOp)=>x.1=x.2.1++x.2.2.1++x.2.2.2.1++x.2.2.2.2∧x.2.1++x.2.2.2.1++x.2.2.1++x.2.2.2.2=rot l a m b∧x.2.1.length+x.2.2.1.length=m∧0<x.2.2.1.length∧0<x.2.2.2.1.length∧x.1.length=l.length) (fun (x:List DOp × List DOp × List DOp × List DOp × List DOp)=>(pu (pu (pu (pu (pu (fun _=>.any) 0 (.sl 0 k l.length)) 2 (i64 m)) 4 (.fn (.func f) fi cap)) 10 (i64 (x.2.2.1.length:Nat))) 11 (i64 (x.2.2.2.1.length:Nat)))) (fun (x:List DOp × List DOp × List DOp × List DOp × List DOp)=>[.row k 65 8 (x.1.map tOp)]) (fun (x:List DOp × List DOp × List DOp × List DOp × List DOp)=>x.2.2.1.length+x.2.2.2.1.length) ((l,l.take a,seg l a m,seg l m b,l.drop b)) ?_ ?_ ?_
 ·refine ⟨j9_ (by omega) (by omega),rfl,?_,?_,?_,rfl⟩
  ·dsimp only;rw [fQ,BN (by omega)];omega
  ·dsimp only;rw [BN (by omega)];omega
  ·dsimp only;rw [BN (by omega)];omega
 ·rw [show ((seg l a m).length:Int)=(m:Int)-a by rw [BN (by omega)];omega,show ((seg l m b).length:Int)=(b:Int)-m by rw [BN (by omega)];omega]
  exact Wk.cq 1
 ·rintro ⟨M,P,X,Y,S⟩ ⟨h1,h2,h3,h4,h5,h6⟩
  dsimp only at h1 h2 h3 h4 h5 h6 ⊢
  have hML:P.length+X.length+Y.length+S.length=l.length:=by rw [←h6,h1];simp only [fJ]
  have hMt:(M.map tOp).length=l.length:=by rw [fH,h6]
  obtain ⟨p,hp⟩ : ∃p,p=P.length:=⟨_,rfl⟩
  have ep:(p:Int)=(m:Int)-(X.length:Nat):=by omega
  rcases mA X.length Y.length with hxy|hxy|hxy
  ·-- i<j
   obtain ⟨q,hq⟩ : ∃q,q=Y.length-X.length:=⟨_,rfl⟩
   have hY:Y=Y.take q++Y.drop q:=(iR _ _).symm
   have ly1:(Y.take q).length=q:=by rw [fQ];omega
   have ly2:(Y.drop q).length=X.length:=by rw [gD];omega
   have c1:=GZ (.fn (.func f) fi cap) hup M k p (m+q) X.length (by omega) (by omega) (by omega)
   have e1:swr M p (m+q) X.length=P++Y.drop q++Y.take q++(X++S):=by
    have:=LE (P:=P) (X:=X) (M:=Y.take q) (Y:=Y.drop q) (S:=S) (a:=p) (b:=m+q) (n:=X.length) hp (by omega) rfl ly2.symm
    rw [h1]
    conv=>lhs;rw [hY]
    rw [←fS (P++X),this];simp [fS]
   rw [e1,h6,ep,show ((m+q:Nat):Int)=(m:Int)+(Y.length:Nat)-(X.length:Nat) by omega] at c1
   repeat' (first|refine Ao ?_|fail)
   all_goals try exact ZE5
   refine ⟨(P++Y.drop q++Y.take q++(X++S),P,Y.drop q,Y.take q,X++S),⟨rfl,?_,by dsimp only;omega,by dsimp only;omega,by dsimp only;omega,?_⟩,by dsimp only;omega,?_⟩
   ·dsimp only;rw [←h2];conv=>rhs;rw [hY]
    simp [fS]
   ·dsimp only;simp only [fJ,ly1,ly2];omega
   ·dsimp only;rw [ly1,ly2,show (q:Int)=(Y.length:Nat)-(X.length:Nat) by omega]
    exact Wk.cq 1
  ·-- i=j
   have c1:=GZ (.fn (.func f) fi cap) hup M k p m X.length (by omega) (by omega) (by omega)
   have e1:swr M p m X.length=rot l a m b:=by
    have:=LE (P:=P) (X:=X) (M:=[]) (Y:=Y) (S:=S) (a:=p) (b:=m) (n:=X.length) hp bA rfl hxy
    rw [h1, ←h2]
    simpa using this
   rw [e1,h6,ep] at c1
   repeat' (first|refine Ao ?_|fail)
   all_goals exact Ah Tryz.results278
  ·-- i>j
   obtain ⟨q,hq⟩ : ∃q,q=Y.length:=⟨_,rfl⟩
   have hX:X=X.take q++X.drop q:=(iR _ _).symm
   have lx1:(X.take q).length=q:=by rw [fQ];omega
   have lx2:(X.drop q).length=X.length-Y.length:=by rw [gD];omega
   have c1:=GZ (.fn (.func f) fi cap) hup M k p m Y.length (by omega) (by omega) (by omega)
   have e1:swr M p m Y.length=(P++Y)++X.drop q++X.take q++S:=by
    have:=LE (P:=P) (X:=X.take q) (M:=X.drop q) (Y:=Y) (S:=S) (a:=p) (b:=m) (n:=Y.length) hp (by omega) (by omega) rfl
    rw [h1]
    conv=>lhs;rw [hX]
    rw [←fS P,this]
   rw [e1,h6,ep] at c1
   repeat' (first|refine Ao ?_|fail)
   all_goals try exact ZE5
   refine ⟨((P++Y)++X.drop q++X.take q++S,P++Y,X.drop q,X.take q,S),⟨rfl,?_,?_,by dsimp only;omega,by dsimp only;omega,?_⟩,by dsimp only;omega,?_⟩
   ·dsimp only;rw [←h2];conv=>rhs;rw [hX]
    simp [fS]
   ·dsimp only;rw [fJ,lx2];omega
   ·dsimp only;simp only [fJ,lx1,lx2];omega
   ·dsimp only;rw [lx1,lx2,show ((X.length-Y.length:Nat):Int)=(X.length:Nat)-(Y.length:Nat) by omega,hq]
    exact Wk.cq 1
abbrev fRq (q:AT):AV:=.agg [i64 q.kind,i64 q.arg,i64 q.value,bo q.dflt,.t (.lst (q.cases.map tCs))]
theorem AkW (a b:List Int) (ha:a.length≤1152921504606846976):Cd Tryz.prog 217 [.ln (a.map tU),.ln (b.map tU)] (bo (decide (a=b))) []:=by
 have h1:(a.map tU).length=a.length:=fH _
 have h2:(b.map tU).length=b.length:=fH _
 refine ZEN Tryz.func217 Tryz.ntmps217 ?_
 repeat' (first|refine A0 ?_|refine ZK2 (fun hc=>?_) (fun hc=>?_)|fail)
 ·(first|exact A5 Tryz.results217|refine A7 Tryz.results217 ?_|refine A8 Tryz.results217 ?_ ?_ ?_<;>repeat' (first|exact ZE1|refine ZE2 ?_ ?_|refine ZE3 ?_|exact ZE4|fail))
  have:a≠b:=by rintro rfl;exact hc rfl
  simp [this]
 ·refine AW.loopP (fun (i:Nat)=>∀j,j<i→a.getD j 0=b.getD j 0) (fun (i:Nat)=>(pu (pu (pu (pu (pu (pu (fun _=>.any) 0 (.ln (a.map tU))) 1 (.ln (b.map tU))) 4 (.t (.v (.bool false)))) 12 (.ln (a.map tU))) 13 (i64 (a.map tU).length)) 14 (i64 i))) (fun (i:Nat)=>[]) (fun (i:Nat)=>a.length+1-i) (0) ?_ ?_ ?_
  ·intro j hj;omega
  ·exact Wk.cq 0
  ·intro i hi
   repeat' (first|refine A0 ?_|refine ZK2 (fun hc=>?_) (fun hc=>?_)|fail)
   ·(first|exact A5 Tryz.results217|refine A7 Tryz.results217 ?_|refine A8 Tryz.results217 ?_ ?_ ?_<;>repeat' (first|exact ZE1|refine ZE2 ?_ ?_|refine ZE3 ?_|exact ZE4|fail))
    have:a≠b:=by rintro rfl;exact hc rfl
    simp [this]
   ·refine ⟨i+1,fun j hj=>?_,by omega,?_⟩
    ·by_cases e:j=i
     ·subst e;exact (Decidable.not_not.1 hc).symm
     ·exact hi j (by omega)
    ·exact Wk.cq 0
   ·(first|exact A5 Tryz.results217|refine A7 Tryz.results217 ?_|refine A8 Tryz.results217 ?_ ?_ ?_<;>repeat' (first|exact ZE1|refine ZE2 ?_ ?_|refine ZE3 ?_|exact ZE4|fail))
    have:a=b:=AbA (z:=0) (by omega) fun j hj=>hi j (by omega)
    simp [this]
def callC (q:AT) (ph:Int):List Int:=if BR q then HD q ph else []
theorem b6_ (q:AT) (ph:Int) (hl:q.cases.length≤1152921504606846976) (hp:0≤ph∧ph≤4294967295):Cd Tryz.prog 182 [aRq q,i64 ph] (fU (callC q ph)) []:=by
 unfold callC
 cases hq:BR q
 ·exact AfC q ph hl hq
 ·rw [fL rfl]
  cases hd:q.dflt
  ·rw [AiG hd];exact p6_ q ph hq hd hp
  ·exact AfD q ph hq hd hp
theorem AfU (h a b c:Int):(reqR h a b c).cases.length≤3:=by unfold reqR;simp;omega
theorem g4_ {h a b c p:Int} (hh:0≤h∧h≤18446744073709551615) (ha:0≤a∧a≤18446744073709551615) (hb:0≤b∧b≤18446744073709551615) (hc:0≤c∧c≤18446744073709551615) (hp:p≤4294967295) (h3:h/256%16≤3):decide (callC (reqR h a b c) p=[h,a,b,c,p])=KG h a b c p:=by
 have k:=TY hh ha hb hc hp h3
 unfold callC
 cases hf:BR (reqR h a b c)
 ·rw [hf] at k
  simp only [iC,lV,false_iff] at k
  rw [fM (by simp)]
  simp [k]
 ·rw [hf] at k
  rw [fL rfl]
  simp only [true_and] at k
  cases hm:KG h a b c p
  ·exact fP fun e=>by have:=k.1 e;rw [hm] at this;cases this
  ·exact fR (k.2 hm)
def AlI (h a b c p:Int):AT:=if KG h a b c p then reqR h a b c else ⟨0,0,0,false,[]⟩
def phC (h a b c p:Int):Int:=if KG h a b c p then p else 0
theorem AqS {h a b c p:Int} (hn : ¬(p≤4294967295∧h/256%16≤3)):KG h a b c p=false:=by
 unfold KG
 by_cases h1:p≤4294967295
 ·rw [fP (p:=1≤h%256∧h%256≤9∧h/256%16≤3∧h/4096%16≤1) (by omega)];simp
 ·rw [fP h1];simp
theorem BbZ {h:Int} (h0:0≤h):h/256%16=((nR h:Nat):Int)∧nR h≤15:=by unfold nR;omega
theorem b8_ (h a b c p:Int) (hh:0≤h∧h≤18446744073709551615) (ha:0≤a∧a≤18446744073709551615) (hb:0≤b∧b≤18446744073709551615) (hc:0≤c∧c≤18446744073709551615) (hp:0≤p∧p≤18446744073709551615) :
  Cd Tryz.prog 174 [.ln ([h,a,b,c,p].map tU)] (.tup [fRq (AlI h a b c p),i64 (phC h a b c p),bo (KG h a b c p)]) []:=by
 obtain ⟨hn,hn15⟩:=BbZ hh.1
 have x0:([h,a,b,c,p]:List Int)[0]? = some h:=rfl
 have x4:([h,a,b,c,p]:List Int)[4]? = some p:=rfl
 have hl:(([h,a,b,c,p]:List Int).map tU).length=5:=rfl
 have hl2:([h,a,b,c,p]:List Int).length=5:=rfl
 by_cases hk:p≤4294967295∧h/256%16≤3
 ·have cB:=g4_ hh ha hb hc hk.1 hk.2
  have cC:=b6_ (reqR h a b c) p (by have:=AfU h a b c;omega) ⟨hp.1,hk.1⟩
  have cS:=AkW (callC (reqR h a b c) p) [h,a,b,c,p] (by unfold callC HD;split;simp [CQ];exact fO _)
  rw [cB] at cS
  have h0 : ∀m,KG h a b c p=m→Cd Tryz.prog 174 [.ln ([h,a,b,c,p].map tU)] (if m then .tup [.agg [i64 (h%256),i64 (h/65536%65536),i64 (h/4294967296),bo (decide (h/4096%2=1)),.sl 0 0 (nR h)],i64 p,bo true] else .tup [fRq ⟨0,0,0,false,[]⟩,i64 0,bo false]) (if m then [.row 0 141 3 ((([a,b,c].take (nR h)).map DR).map tCs)] else []):=by
   intro m hm
   rw [hm] at cS
   have eL:List.take (Int.toNat (1+h/256%16)-1) (List.drop 1 ([h,a,b,c,p]:List Int))=[a,b,c].take (nR h):=by
    rw [show Int.toNat (1+h/256%16)-1=nR h by omega]
    have:nR h=0∨nR h=1∨nR h=2∨nR h=3:=by omega
    rcases this with e|e|e|e<;>rw [e]<;>rfl
   have lL:([a,b,c].take (nR h)).length=nR h:=by rw [fQ];simp only [fY,gB];omega
   have lM:(([a,b,c].take (nR h)).map tU).length=nR h:=by rw [fH,lL]
   have lw : ∀w∈[a,b,c].take (nR h),0≤w∧w≤18446744073709551615:=fun w hw=>by
    have:=iH hw
    simp only [iE,kW,or_false] at this
    rcases this with rfl|rfl|rfl<;>assumption
   have eR:reqR h a b c=⟨h%256,h/65536%65536,h/4294967296,decide (h/4096%2=1),([a,b,c].take (nR h)).map DR⟩:=rfl
   generalize hcl:callC (reqR h a b c) p=cl at *
   rw [eR] at cC
   dsimp only [aRq] at cC
   generalize [a,b,c].take (nR h)=L at *
   generalize hD:([h,a,b,c,p]:List Int)=D at *
   clear hm cB hcl hD ha hb hc
   refine ZEN Tryz.func174 Tryz.ntmps174 ?_
   repeat' (first|refine F9 ?_|refine uS 42 (fun hb=>?_) (fun hb=>?_)|refine ZK2 (fun hc=>?_) (fun hc=>?_)|fail)
   all_goals try exact ZE5
   rw [eL]
   refine AW.wk (Wk.ownB 1 4 rfl rfl 141 3 (.push rfl rfl) rfl) ?_
   refine AW.loopP (fun (i:Nat)=>i≤nR h) (fun (i:Nat)=>(pu (pu (pu (pu (pu (pu (pu (fun _=>.any) 0 (.ln (D.map tU))) 2 (.ptr 0 0)) 6 (.ptr 1 0)) 8 (u64 p)) 50 (.ln (L.map tU))) 51 (i64 (L.map tU).length)) 52 (i64 i))) (fun (i:Nat)=>[.box 32 [i64 0,i64 0,i64 0,bo false,.nl],.box 32 [i64 (h%256),i64 (h/65536%65536),i64 (h/4294967296),bo (decide (h/4096%2=1)),.sl 2 i i],.row i 141 3 (((L.take i).map DR).map tCs)]) (fun (i:Nat)=>nR h-i) (0) ?_ ?_ ?_
   ·exact fO _
   ·exact Wk.cq 3
   ·intro i hi
    by_cases hi2:i<nR h
    ·obtain ⟨w,hw⟩ : ∃w,L[i]? = some w:=⟨_,ZgE (by omega)⟩
     have hwb:=lw w (fI hw)
     have hs:(L.take (i+1)).map DR=(L.take i).map DR++[DR w]:=by rw [iG,hw];simp
     have hM:((L.take i).map DR).length=i:=by rw [fH,fQ];omega
     rw [show DR w=⟨w%256,w/256%65536,w/4294967296⟩ from rfl] at hs
     generalize (L.take i).map DR=M at *
     have hM2:(M.map tCs).length=i:=by rw [fH,hM]
     clear eL x0 x4 hk hh hn
     repeat' (first|refine F9 ?_|refine uS 42 (fun hb=>?_) (fun hb=>?_)|refine ZK2 (fun hc=>?_) (fun hc=>?_)|fail)
     all_goals try exact ZE5
     refine ⟨i+1,by omega,by omega,?_⟩
     rw [hs]
     exact Wk.cq 3
    ·have e:L.take i=L:=jE (by omega)
     have e2:i=nR h:=by omega
     have hM2:((L.map DR).map tCs).length=nR h:=by rw [fH,fH,lL]
     have hM:(L.map DR).length=nR h:=by rw [fH,lL]
     rw [e,e2]
     generalize L.map DR=M at *
     clear eL x0 x4 e e2 hi hi2 lw
     cases m
     ·repeat' (first|(refine ZAL ?_;first|(refine kL 1038 rfl ?_;first|(refine zkD 80 rfl ?_;refine uA ?_;(try refine uz 80 ?_)))|refine Co ?_|refine Cq ?_|refine Cr ?_|refine uA ?_|refine uK (cC) ?_|refine uK (cS) ?_)|(refine ZRG ?_;first|refine Cs ?_|refine uR ?_)|refine uC ?_|refine AW.drawU (id:=5) mixed 0 qR ?_|refine uS 42 (fun hb=>?_) (fun hb=>?_)|refine ZK2 (fun hc=>?_) (fun hc=>?_)|fail)
      all_goals first|(exfalso;omega)|((first|exact Fin.q Tryz.results174 (.cons (.agg rfl rfl ud32 rfl inf32 (us:=[_,_,_,_,_]) rfl rfl) (.cons (.tmp rfl) (.cons (.tmp rfl) .nil))) []|refine Fin.q Tryz.results174 (.cons (.agg rfl rfl ud32 rfl inf32 (us:=[_,_,_,_,_]) rfl rfl) (.cons (.tmp rfl) (.cons (.tmp rfl) .nil))) [] (hr:=(.tupL (.cons (.t ?_) (.cons (.t ?_) (.cons (.t ?_) .nil)))))|refine Fin.mkv (rs:=_) Tryz.results174 (.cons (.agg rfl rfl ud32 rfl inf32 (us:=[_,_,_,_,_]) rfl rfl) (.cons (.tmp rfl) (.cons (.tmp rfl) .nil))) [] (by decide) rfl ?_ ?_ ?_<;>repeat' (first|exact ZE1|refine ZE2 ?_ ?_|refine ZE3 ?_|exact ZE4|fail)))
     ·repeat' (first|(refine ZAL ?_;first|refine Co ?_|refine Cq ?_|refine Cr ?_|refine uA ?_|refine uK (cC) ?_|refine uK (cS) ?_)|(refine ZRG ?_;first|refine Cs ?_|refine uR ?_)|refine uC ?_|refine AW.drawU (id:=5) mixed 0 qR ?_|refine uS 42 (fun hb=>?_) (fun hb=>?_)|refine ZK2 (fun hc=>?_) (fun hc=>?_)|fail)
      all_goals first|(exfalso;omega)|((first|exact Fin.q Tryz.results174 (.cons (.agg rfl rfl ud32 rfl inf32 (us:=[_,_,_,_,_]) rfl rfl) (.cons (.tmp rfl) (.cons (.tmp rfl) .nil))) [2]|refine Fin.q Tryz.results174 (.cons (.agg rfl rfl ud32 rfl inf32 (us:=[_,_,_,_,_]) rfl rfl) (.cons (.tmp rfl) (.cons (.tmp rfl) .nil))) [2] (hr:=(.tupL (.cons (.t ?_) (.cons (.t ?_) (.cons (.t ?_) .nil)))))|refine Fin.mkv (rs:=_) Tryz.results174 (.cons (.agg rfl rfl ud32 rfl inf32 (us:=[_,_,_,_,_]) rfl rfl) (.cons (.tmp rfl) (.cons (.tmp rfl) .nil))) [2] (by decide) rfl ?_ ?_ ?_<;>repeat' (first|exact ZE1|refine ZE2 ?_ ?_|refine ZE3 ?_|exact ZE4|fail)))
  unfold AlI phC
  cases hm:KG h a b c p
  ·have h1:=h0 false hm
   simp only [iC,jC] at h1 ⊢
   exact h1
  ·have h1:=h0 true hm
   simp only [jL] at h1 ⊢
   have e:(([a,b,c].take (nR h)).map DR).length=nR h:=by rw [fH,fQ];simp only [fY,gB];omega
   rw [show reqR h a b c=⟨h%256,h/65536%65536,h/4294967296,decide (h/4096%2=1),([a,b,c].take (nR h)).map DR⟩ from rfl]
   generalize ([a,b,c].take (nR h)).map DR=M at *
   rw [←e] at h1
   have h1':=Cd.frz h1 0 rfl aB rfl;exact Cd.drop h1' rfl
 ·have hm:=AqS (a:=a) (b:=b) (c:=c) hk
  unfold AlI phC
  rw [hm,fM (by simp),fM (by simp)]
  generalize hD:([h,a,b,c,p]:List Int)=D at *
  clear hD hm
  by_cases h1:h/256%16≤3
  all_goals
   refine ZEN Tryz.func174 Tryz.ntmps174 ?_
   repeat' (first|(refine ZAL ?_;first|(refine kL 1038 rfl ?_;first|(refine zkD 14 rfl ?_;refine uA ?_;(try refine uz 14 ?_))|(refine zkD 46 rfl ?_;refine uA ?_;(try refine uz 46 ?_))|(refine zkD 80 rfl ?_;refine uA ?_;(try refine uz 80 ?_)))|refine Co ?_|refine Cq ?_|refine Cr ?_|refine uA ?_)|(refine ZRG ?_;first|refine Cs ?_|refine uR ?_)|refine uC ?_|refine AW.drawU (id:=5) mixed 0 qR ?_|refine uS 42 (fun hb=>?_) (fun hb=>?_)|refine ZK2 (fun hc=>?_) (fun hc=>?_)|fail)
   all_goals first|(exfalso;omega)|((first|exact Fin.q Tryz.results174 (.cons (.agg rfl rfl ud32 rfl inf32 (us:=[_,_,_,_,_]) rfl rfl) (.cons (.tmp rfl) (.cons (.tmp rfl) .nil))) []|refine Fin.q Tryz.results174 (.cons (.agg rfl rfl ud32 rfl inf32 (us:=[_,_,_,_,_]) rfl rfl) (.cons (.tmp rfl) (.cons (.tmp rfl) .nil))) [] (hr:=(.tupL (.cons (.t ?_) (.cons (.t ?_) (.cons (.t ?_) .nil)))))|refine Fin.mkv (rs:=_) Tryz.results174 (.cons (.agg rfl rfl ud32 rfl inf32 (us:=[_,_,_,_,_]) rfl rfl) (.cons (.tmp rfl) (.cons (.tmp rfl) .nil))) [] (by decide) rfl ?_ ?_ ?_<;>repeat' (first|exact ZE1|refine ZE2 ?_ ?_|refine ZE3 ?_|exact ZE4|fail)))
theorem Fin.cl {P:Program} {n:Fr} {T:Nat→AV} {fn:Func} {rs:List ResultVar} (hrs:fn.results=rs.toArray) {els:List (List Tr)} (hx:VU P n T [] rs [.cl els]):Fin P fn (fun r L=>r = .cl els∧L=[]) n T []:=by
 unfold Fin
 rintro e a w ⟨ρ,Z,Y,hR⟩
 obtain ⟨vs,q1,q2⟩:=hx.run hR
 have hres:(results fn a.tmps).run P w = .ok (match vs with| [v]=>v|l=>.tuple l.toArray) w:=by
  rw [LA,hrs]
  have hm:((rs.toArray).mapM (KM a.tmps)).run P w = .ok vs.toArray w:=by
   rw [List.mapM_toArray]
   simp only [mQ,Sem.run_bind,q1,Result.andThen_ok,Sem.run_pure]
  simp only [Sem.run_bind,hm,Result.andThen_ok]
  match vs with
  | []=>rfl
  | [v]=>rfl
  |v::u::l=>simp
 refine ⟨_,_,_,ρ,Z,Y,hres,⟨rfl,rfl⟩,hR.ok,?_⟩
 match vs,q2 with
 | [],h2=>have:=h2.len;simp at this
 | [v],h2=>exact h2.at_ 0 _ v rfl rfl
 |_::_::_,h2=>have:=h2.len;simp at this
theorem WB (l:List Int):Cd Tryz.prog 168 [.t (.lst (l.map tU))] (.cl (l.map tU)) []:=by
 refine ZEN Tryz.func168 Tryz.ntmps168 ?_
 repeat' (first|refine A0 ?_|refine ZK2 (fun hc=>?_) (fun hc=>?_)|fail)
 all_goals first|(exfalso;omega)|exact Fin.cl Tryz.results168 (.cons (.tmp rfl) .nil)
theorem AbV (l:List DOp):Cd Tryz.prog 175 [.t (.lst (l.map tOp))] (.cl (l.map tOp)) []:=by
 refine ZEN Tryz.func175 Tryz.ntmps175 ?_
 repeat' (first|refine A0 ?_|refine ZK2 (fun hc=>?_) (fun hc=>?_)|fail)
 all_goals first|(exfalso;omega)|exact Fin.cl Tryz.results175 (.cons (.tmp rfl) .nil)
end
end Go.Proofs.YtccefppppedgkaaGreat
