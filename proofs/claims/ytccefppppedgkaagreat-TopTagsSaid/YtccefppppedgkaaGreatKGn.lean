/- Joined: XTSortM, XTSortW, XTPWaits, XTLaw10. -/
import Derived.Test.YtccefppppedgkaaGreatKGm
set_option linter.unusedVariables false
set_option linter.unusedSimpArgs false
set_option linter.unnecessarySimpa false
set_option maxRecDepth 100000
set_option maxHeartbeats 64000000
namespace Go.Proofs.YtccefppppedgkaaGreat
open Go.RowKit
section
attribute [local irreducible] AL AW RG Fin C Cd Cio AI AF AN
section
section
variable (f:FuncId) (fi cap:List AV) (key:Int→Int) (hup:upB (CK 1) (.fn (.func f) fi cap) = .fn (.func f) fi cap) (hps : ∀heap sel,BG heap sel (.fn (.func f) fi cap) (.fn (.func f) fi cap)) (k:Nat)
include hup in
theorem AeB (l:List Int) (a m b:Nat) (ham:m=a+1) (hmb:m<b) (hb:b≤l.length) (hl:l.length≤1152921504606846976) (hg:PL (.fn (.func f) fi cap) key l) (hs:BF key (seg l m b)) :
  Cio Tryz.prog 324 [.sl 0 k l.length,i64 a,i64 m,i64 b,.fn (.func f) fi cap] [.row k 3 1 (l.map tI)] (.tup []) [.row k 3 1 ((srt key l a b).map tI)]:=by
 have hlt:(l.map tI).length=l.length:=fH _
 obtain ⟨x,hx⟩ : ∃x,l[a]? = some x:=⟨_,ZgE (by omega)⟩
 have kx:=BO (key:=key) hx
 refine ZEN Tryz.func324 Tryz.ntmps324 ?_
 repeat' (first|refine A0 ?_|fail)
 all_goals try exact ZE5
 refine AW.loopP (fun (z:Int × Int)=>(m:Int)≤z.1∧z.1≤z.2∧z.2≤b∧((m:Int)<z.1→kat key l (z.1-1).toNat<kat key l a)∧(z.2<b→kat key l a≤kat key l z.2.toNat)) (fun (z:Int × Int)=>(pu (pu (pu (pu (pu (pu (pu (fun _=>.any) 0 (.sl 0 k l.length)) 1 (i64 a)) 2 (i64 m)) 3 (i64 b)) 4 (.fn (.func f) fi cap)) 10 (i64 z.1)) 11 (i64 z.2))) (fun (z:Int × Int)=>[.row k 3 1 (l.map tI)]) (fun (z:Int × Int)=>(z.2-z.1).toNat) (((m:Int),(b:Int))) ?_ ?_ ?_
 ·exact ⟨gG _,by dsimp only;omega,gG _,fun h=>by dsimp only at h;omega,fun h=>by dsimp only at h;omega⟩
 ·exact Wk.cq 1
 ·rintro ⟨i,j⟩ ⟨h1,h2,h3,h4,h5⟩
  dsimp only at h1 h2 h3 h4 h5 ⊢
  by_cases hij:i<j
  ·obtain ⟨y,hy⟩ : ∃y,l[((i+j)/2).toNat]? = some y:=⟨_,ZgE (by omega)⟩
   have ky:=BO (key:=key) hy
   obtain ⟨c,hc0,hcv⟩:=hg y (fI hy) x (fI hx)
   by_cases hk:key y<key x
   ·have hcn:=hc0.2 hk
    repeat' (first|(refine ZRG ?_;first|(refine kR 11 rfl ?_;first|refine BZ rfl rfl rfl rfl (hcv) (acc:=_) rfl (fun h' hh=>by ((repeat (first|exact .nil|refine .cons ?_ ?_|exact .t _));(first|done|fail))) rfl rfl ?_))|refine Ch ?_|fail)
    all_goals try exact ZE5
    refine ⟨((i+j)/2+1,j),⟨by dsimp only;omega,by dsimp only;omega,h3,fun _=>?_,h5⟩,by dsimp only;omega,?_⟩
    ·dsimp only;rw [jQ,ky,kx];exact hk
    ·exact Wk.cq 1
   ·have hcn : ¬c<0:=fun h=>hk (hc0.1 h)
    repeat' (first|(refine ZRG ?_;first|(refine kR 11 rfl ?_;first|refine BZ rfl rfl rfl rfl (hcv) (acc:=_) rfl (fun h' hh=>by ((repeat (first|exact .nil|refine .cons ?_ ?_|exact .t _));(first|done|fail))) rfl rfl ?_))|refine Ch ?_|fail)
    all_goals try exact ZE5
    refine ⟨(i,(i+j)/2),⟨h1,by dsimp only;omega,by dsimp only;omega,h4,fun _=>?_⟩,by dsimp only;omega,?_⟩
    ·dsimp only;rw [ky,kx];omega
    ·exact Wk.cq 1
  ·obtain rfl:i=j:=by omega
   obtain ⟨i,rfl⟩ : ∃n:Nat,i=n:=⟨i.toNat,by omega⟩
   have hres:bub l a (i-(a+1))=srt key l a b:=UM (by omega) (by omega) hb (by rw [←ham];exact hs) (fun h=>by have:=h4 (by omega);rwa [show ((i:Int)-1).toNat=i-1 by omega] at this) (fun h=>by have:=h5 (by omega);rwa [fW] at this)
   repeat' (first|refine A0 ?_|fail)
   all_goals try exact ZE5
   refine AW.loopP (fun (z:Nat × List Int)=>z.1+1≤i∧z.2.length=l.length∧bub z.2 z.1 (i-(z.1+1))=srt key l a b) (fun (z:Nat × List Int)=>(pu (pu (pu (pu (fun _=>.any) 0 (.sl 0 k l.length)) 4 (.fn (.func f) fi cap)) 10 (i64 i)) 13 (i64 z.1))) (fun (z:Nat × List Int)=>[.row k 3 1 (z.2.map tI)]) (fun (z:Nat × List Int)=>i-z.1) ((a,l)) ?_ ?_ ?_
   ·exact ⟨by dsimp only;omega,rfl,hres⟩
   ·exact Wk.cq 1
   ·rintro ⟨q,M⟩ ⟨g1,g2,g3⟩
    dsimp only at g1 g2 g3 ⊢
    have hMt:(M.map tI).length=l.length:=by rw [fH,g2]
    by_cases hq:q+1<i
    ·have e1:((q:Int)+1).toNat=q+1:=by omega
     obtain ⟨x,hx⟩ : ∃x,M[q]? = some x:=⟨_,ZgE (by omega)⟩
     obtain ⟨y,hy⟩ : ∃y,M[((q:Int)+1).toNat]? = some y:=⟨_,ZgE (by omega)⟩
     have hy2:(M.set q y)[((q:Int)+1).toNat]? = some y:=by rw [jG (by omega),hy]
     have hsw:=k2_ hx hy
     rw [show i-(q+1)=(i-(q+1+1))+1 by omega,bub,show swp M q (q+1)=swp M q ((q:Int)+1).toNat by rw [e1], ←hsw] at g3
     skip
     repeat' (first|refine uA ?_|refine uR ?_|refine uC ?_|refine AW.drawU (id:=11) mixed 0 qR ?_|fail)
     all_goals try exact ZE5
     refine ⟨(q+1,(M.set q y).set ((q:Int)+1).toNat x),⟨by dsimp only;omega,by simp [g2],g3⟩,by dsimp only;omega,?_⟩
     exact Wk.cq 1
    ·rw [show i-(q+1)=0 by omega,bub] at g3
     subst g3
     repeat' (first|refine A0 ?_|fail)
     all_goals exact Ah Tryz.results324
include hup in
theorem AeC (l:List Int) (a m b:Nat) (ham:a+1<m) (hmb:b=m+1) (hb:b≤l.length) (hl:l.length≤1152921504606846976) (hg:PL (.fn (.func f) fi cap) key l) (hs:BF key (seg l a m)) :
  Cio Tryz.prog 324 [.sl 0 k l.length,i64 a,i64 m,i64 b,.fn (.func f) fi cap] [.row k 3 1 (l.map tI)] (.tup []) [.row k 3 1 ((srt key l a b).map tI)]:=by
 have hlt:(l.map tI).length=l.length:=fH _
 obtain ⟨x,hx⟩ : ∃x,l[m]? = some x:=⟨_,ZgE (by omega)⟩
 have kx:=BO (key:=key) hx
 refine ZEN Tryz.func324 Tryz.ntmps324 ?_
 repeat' (first|refine A0 ?_|fail)
 all_goals try exact ZE5
 refine AW.loopP (fun (z:Int × Int)=>(a:Int)≤z.1∧z.1≤z.2∧z.2≤m∧((a:Int)<z.1→kat key l (z.1-1).toNat≤kat key l m)∧(z.2<m→kat key l m<kat key l z.2.toNat)) (fun (z:Int × Int)=>(pu (pu (pu (pu (pu (pu (pu (fun _=>.any) 0 (.sl 0 k l.length)) 1 (i64 a)) 2 (i64 m)) 3 (i64 b)) 4 (.fn (.func f) fi cap)) 14 (i64 z.1)) 15 (i64 z.2))) (fun (z:Int × Int)=>[.row k 3 1 (l.map tI)]) (fun (z:Int × Int)=>(z.2-z.1).toNat) (((a:Int),(m:Int))) ?_ ?_ ?_
 ·exact ⟨gG _,by dsimp only;omega,gG _,fun h=>by dsimp only at h;omega,fun h=>by dsimp only at h;omega⟩
 ·exact Wk.cq 1
 ·rintro ⟨i,j⟩ ⟨h1,h2,h3,h4,h5⟩
  dsimp only at h1 h2 h3 h4 h5 ⊢
  by_cases hij:i<j
  ·obtain ⟨y,hy⟩ : ∃y,l[((i+j)/2).toNat]? = some y:=⟨_,ZgE (by omega)⟩
   have ky:=BO (key:=key) hy
   obtain ⟨c,hc0,hcv⟩:=hg x (fI hx) y (fI hy)
   by_cases hk:key x<key y
   ·have hcn:=hc0.2 hk
    repeat' (first|(refine ZRG ?_;first|(refine kR 11 rfl ?_;first|refine BZ rfl rfl rfl rfl (hcv) (acc:=_) rfl (fun h' hh=>by ((repeat (first|exact .nil|refine .cons ?_ ?_|exact .t _));(first|done|fail))) rfl rfl ?_))|refine Ci ?_|fail)
    all_goals try exact ZE5
    refine ⟨(i,(i+j)/2),⟨h1,by dsimp only;omega,by dsimp only;omega,h4,fun _=>?_⟩,by dsimp only;omega,?_⟩
    ·dsimp only;rw [ky,kx];exact hk
    ·exact Wk.cq 1
   ·have hcn : ¬c<0:=fun h=>hk (hc0.1 h)
    repeat' (first|(refine ZRG ?_;first|(refine kR 11 rfl ?_;first|refine BZ rfl rfl rfl rfl (hcv) (acc:=_) rfl (fun h' hh=>by ((repeat (first|exact .nil|refine .cons ?_ ?_|exact .t _));(first|done|fail))) rfl rfl ?_))|refine Ci ?_|fail)
    all_goals try exact ZE5
    refine ⟨((i+j)/2+1,j),⟨by dsimp only;omega,by dsimp only;omega,h3,fun _=>?_,h5⟩,by dsimp only;omega,?_⟩
    ·dsimp only;rw [jQ,ky,kx];omega
    ·exact Wk.cq 1
  ·obtain rfl:i=j:=by omega
   obtain ⟨i,rfl⟩ : ∃n:Nat,i=n:=⟨i.toNat,by omega⟩
   have hres:NE l m (m-i)=srt key l a b:=by
    rw [hmb]
    exact RP (by omega) (by omega) (by omega) hs (fun h=>by have:=h4 (by omega);rwa [show ((i:Int)-1).toNat=i-1 by omega] at this) (fun h=>by have:=h5 (by omega);rwa [fW] at this)
   repeat' (first|refine A0 ?_|fail)
   all_goals try exact ZE5
   refine AW.loopP (fun (z:Int × List Int)=>(i:Int)≤z.1∧z.1≤m∧z.2.length=l.length∧NE z.2 z.1.toNat (z.1.toNat-i)=srt key l a b) (fun (z:Int × List Int)=>(pu (pu (pu (pu (fun _=>.any) 0 (.sl 0 k l.length)) 4 (.fn (.func f) fi cap)) 14 (i64 i)) 17 (i64 z.1))) (fun (z:Int × List Int)=>[.row k 3 1 (z.2.map tI)]) (fun (z:Int × List Int)=>(z.1-i).toNat) (((m:Int),l)) ?_ ?_ ?_
   ·exact ⟨by dsimp only;omega,by dsimp only;omega,rfl,hres⟩
   ·exact Wk.cq 1
   ·rintro ⟨q,M⟩ ⟨g1,g0,g2,g3⟩
    dsimp only at g1 g0 g2 g3 ⊢
    have hMt:(M.map tI).length=l.length:=by rw [fH,g2]
    by_cases hq:(i:Int)<q
    ·have e1:(q-1).toNat=q.toNat-1:=by omega
     obtain ⟨x,hx⟩ : ∃x,M[q.toNat]? = some x:=⟨_,ZgE (by omega)⟩
     obtain ⟨y,hy⟩ : ∃y,M[(q-1).toNat]? = some y:=⟨_,ZgE (by omega)⟩
     have hy2:(M.set q.toNat y)[(q-1).toNat]? = some y:=by rw [jG (by omega),hy]
     have hsw:=k2_ hx hy
     rw [show q.toNat-i=((q-1).toNat-i)+1 by omega,NE,show swp M q.toNat (q.toNat-1)=swp M q.toNat (q-1).toNat by rw [e1], ←hsw, ←e1] at g3
     skip
     repeat' (first|refine uA ?_|refine uR ?_|refine uC ?_|refine AW.drawU (id:=23) mixed 0 qR ?_|fail)
     all_goals try exact ZE5
     refine ⟨(q-1,(M.set q.toNat y).set (q-1).toNat x),⟨by dsimp only;omega,by dsimp only;omega,by simp [g2],g3⟩,by dsimp only;omega,?_⟩
     exact Wk.cq 1
    ·rw [show q.toNat-i=0 by omega,NE] at g3
     subst g3
     repeat' (first|refine A0 ?_|fail)
     all_goals exact Ah Tryz.results324
include hup hps in
theorem AeD (l:List Int) (a m b:Nat) (ham:a+1<m) (hmb:m+1<b) (hb:b≤l.length) (hl:l.length≤1152921504606846976) (hg:PL (.fn (.func f) fi cap) key l) (hs1:BF key (seg l a m)) (hs2:BF key (seg l m b))
  (IH : ∀(l:List Int) (a' m' b':Nat),b'-a'<b-a→a'<m'→m'<b'→b'≤l.length→l.length≤1152921504606846976→PL (.fn (.func f) fi cap) key l→BF key (seg l a' m')→BF key (seg l m' b')→Cio Tryz.prog 324 [.sl 0 k l.length,i64 a',i64 m',i64 b',.fn (.func f) fi cap] [.row k 3 1 (l.map tI)] (.tup []) [.row k 3 1 ((srt key l a' b').map tI)]) :
  Cio Tryz.prog 324 [.sl 0 k l.length,i64 a,i64 m,i64 b,.fn (.func f) fi cap] [.row k 3 1 (l.map tI)] (.tup []) [.row k 3 1 ((srt key l a b).map tI)]:=by
 have hlt:(l.map tI).length=l.length:=fH _
 obtain ⟨mid,emid⟩ : ∃mid:Nat,((a:Int)+(b:Int))/2=mid:=⟨(a+b)/2,by omega⟩
 refine ZEN Tryz.func324 Tryz.ntmps324 ?_
 by_cases hmm:mid<m
 ·obtain ⟨lo,elo⟩ : ∃lo:Int,lo=(mid:Int)+m-b:=⟨_,rfl⟩
  obtain ⟨hi,ehi⟩ : ∃hi:Int,hi=(mid:Int):=⟨_,rfl⟩
  repeat' (first|refine Cj ?_|fail)
  all_goals try exact ZE5
  rw [emid]
  refine AW.loopP (fun (z:Int × Int)=>lo≤z.1∧z.1≤z.2∧z.2≤hi∧(lo<z.1→kat key l (z.1-1).toNat≤kat key l ((mid:Int)+m-1-(z.1-1)).toNat)∧(z.2<hi→kat key l ((mid:Int)+m-1-z.2).toNat<kat key l z.2.toNat)) (fun (z:Int × Int)=>(pu (pu (pu (pu (pu (pu (pu (pu (pu (pu (fun _=>.any) 0 (.sl 0 k l.length)) 1 (i64 a)) 2 (i64 m)) 3 (i64 b)) 4 (.fn (.func f) fi cap)) 18 (i64 mid)) 19 (i64 ((mid:Int)+m))) 20 (i64 z.1)) 21 (i64 z.2)) 22 (i64 ((mid:Int)+m-1)))) (fun (z:Int × Int)=>[.row k 3 1 (l.map tI)]) (fun (z:Int × Int)=>(z.2-z.1).toNat) ((lo,hi)) ?_ ?_ ?_
  ·exact ⟨gG _,by dsimp only;omega,gG _,fun h=>by dsimp only at h;omega,fun h=>by dsimp only at h;omega⟩
  ·subst elo ehi;exact Wk.cq 1
  ·rintro ⟨i,j⟩ ⟨h1,h2,h3,h4,h5⟩
   dsimp only at h1 h2 h3 h4 h5 ⊢
   by_cases hij:i<j
   ·obtain ⟨y,hy⟩ : ∃y,l[((i+j)/2).toNat]? = some y:=⟨_,ZgE (by omega)⟩
    obtain ⟨x,hx⟩ : ∃x,l[((mid:Int)+m-1-(i+j)/2).toNat]? = some x:=⟨_,ZgE (by omega)⟩
    have ky:=BO (key:=key) hy
    have kx:=BO (key:=key) hx
    obtain ⟨c,hc0,hcv⟩:=hg x (fI hx) y (fI hy)
    by_cases hk:key x<key y
    ·have hcn:=hc0.2 hk
     repeat' (first|(refine ZRG ?_;first|(refine kR 11 rfl ?_;first|refine BZ rfl rfl rfl rfl (hcv) (acc:=_) rfl (fun h' hh=>by ((repeat (first|exact .nil|refine .cons ?_ ?_|exact .t _));(first|done|fail))) rfl rfl ?_))|refine Ay ?_|fail)
     all_goals try exact ZE5
     refine ⟨(i,(i+j)/2),⟨h1,by dsimp only;omega,by dsimp only;omega,h4,fun _=>?_⟩,by dsimp only;omega,?_⟩
     ·dsimp only;rw [ky,kx];exact hk
     ·exact Wk.cq 1
    ·have hcn : ¬c<0:=fun h=>hk (hc0.1 h)
     repeat' (first|(refine ZRG ?_;first|(refine kR 11 rfl ?_;first|refine BZ rfl rfl rfl rfl (hcv) (acc:=_) rfl (fun h' hh=>by ((repeat (first|exact .nil|refine .cons ?_ ?_|exact .t _));(first|done|fail))) rfl rfl ?_))|refine Ay ?_|fail)
     all_goals try exact ZE5
     refine ⟨((i+j)/2+1,j),⟨by dsimp only;omega,by dsimp only;omega,h3,fun _=>?_,h5⟩,by dsimp only;omega,?_⟩
     ·dsimp only;rw [jQ,ky,kx];omega
     ·exact Wk.cq 1
   ·obtain rfl:i=j:=by omega
    obtain ⟨st,rfl⟩ : ∃n:Nat,i=n:=⟨i.toNat,by omega⟩
    obtain ⟨en,een⟩ : ∃en:Nat,(mid:Int)+m-st=en:=⟨((mid:Int)+m-st).toNat,by omega⟩
    have q1:a≤st:=by omega
    have q2:st≤m:=by omega
    have q3:m≤en:=by omega
    have q4:en≤b:=by omega
    have q5:st≤mid:=by omega
    obtain ⟨s1,s2,s3,s4,s5⟩:=JV (mid:=mid) q1 q2 q3 q4 hb (by omega) hs1 hs2 (fun g1 g2=>by
     have:=h4 (by omega)
     rwa [show ((st:Int)-1).toNat=st-1 by omega,show ((mid:Int)+m-1-((st:Int)-1)).toNat=en by omega] at this) (fun g1 g2=>by
     have:=h5 (by omega)
     rwa [show ((mid:Int)+m-1-(st:Int)).toNat=en-1 by omega,fW] at this)
    have n1 : ¬(st<m∧m<en)→l=rot l st m en:=fun h=>(MN q2 q3 h).symm
    have n2 : ¬(a<st∧st<mid)→rot l st m en=srt key (rot l st m en) a mid:=fun h=>by
     by_cases e:a=st
     ·subst e;exact (CG (by omega) s2).symm
     ·have e2:st=mid:=by omega
      subst e2;exact (CG q1 s1).symm
    have n3 : ¬(mid<en∧en<b)→srt key (rot l st m en) a mid=srt key l a b:=fun h=>by
     rw [←s5]
     by_cases e:mid=en
     ·subst e;exact (CG (by omega) s4).symm
     ·have e2:en=b:=by omega
      subst e2;exact (CG (by omega) s3).symm
    have v1 : ∀z∈rot l st m en,z∈l:=fun z hz=>PZ hz
    have v2 : ∀z∈srt key (rot l st m en) a mid,z∈l:=fun z hz=>v1 z ((QD (by omega)).1 hz)
    have w1:(rot l st m en).length=l.length:=PY q2 q3 (by omega)
    have w2:(srt key (rot l st m en) a mid).length=l.length:=by rw [DP (by omega) (by omega),w1]
    have cR:st<m∧m<en→_:=fun h=>c9_ f fi cap hup hps l k st m en h.1 h.2 (by omega) hl
    have c2:a<st∧st<mid→_:=fun h=>IH (rot l st m en) a st mid (by omega) h.1 h.2 (by omega) (by omega) (hg.mono v1) s1 s2
    have c3:mid<en∧en<b→_:=fun h=>IH (srt key (rot l st m en) a mid) mid en b (by omega) h.1 h.2 (by omega) (by omega) (hg.mono v2) s3 s4
    rw [s5] at c3
    rw [w1] at c2
    rw [w2] at c3
    clear s1 s2 s3 s4 s5 v1 v2 w1 w2 h4 h5 hs1 hs2 hg
    generalize srt key l a b=L3 at *
    generalize srt key (rot l st m en) a mid=L2 at *
    generalize rot l st m en=L1 at *
    rw [←een] at cR c3
    have t1:(st<m∧m<en)∨(¬(st<m∧m<en)∧l=L1):=(kB _).imp id fun h=>⟨h,n1 h⟩
    have t2:(a<st∧st<mid)∨(¬(a<st∧st<mid)∧L1=L2):=(kB _).imp id fun h=>⟨h,n2 h⟩
    have t3:(mid<en∧en<b)∨(¬(mid<en∧en<b)∧L2=L3):=(kB _).imp id fun h=>⟨h,n3 h⟩
    clear n1 n2 n3
    rcases t1 with g1|⟨g1,rfl⟩<;>rcases t2 with g2|⟨g2,rfl⟩<;>rcases t3 with g3|⟨g3,rfl⟩
    all_goals try (exfalso;omega)
    all_goals
     repeat' (first|refine Ev ?_|fail)
     all_goals first|(exfalso;omega)|(exact Fin.q Tryz.results324 .nil [])
 ·obtain ⟨lo,elo⟩ : ∃lo:Int,lo=(a:Int):=⟨_,rfl⟩
  obtain ⟨hi,ehi⟩ : ∃hi:Int,hi=(m:Int):=⟨_,rfl⟩
  repeat' (first|refine Cj ?_|fail)
  all_goals try exact ZE5
  rw [emid]
  refine AW.loopP (fun (z:Int × Int)=>lo≤z.1∧z.1≤z.2∧z.2≤hi∧(lo<z.1→kat key l (z.1-1).toNat≤kat key l ((mid:Int)+m-1-(z.1-1)).toNat)∧(z.2<hi→kat key l ((mid:Int)+m-1-z.2).toNat<kat key l z.2.toNat)) (fun (z:Int × Int)=>(pu (pu (pu (pu (pu (pu (pu (pu (pu (pu (fun _=>.any) 0 (.sl 0 k l.length)) 1 (i64 a)) 2 (i64 m)) 3 (i64 b)) 4 (.fn (.func f) fi cap)) 18 (i64 mid)) 19 (i64 ((mid:Int)+m))) 20 (i64 z.1)) 21 (i64 z.2)) 22 (i64 ((mid:Int)+m-1)))) (fun (z:Int × Int)=>[.row k 3 1 (l.map tI)]) (fun (z:Int × Int)=>(z.2-z.1).toNat) ((lo,hi)) ?_ ?_ ?_
  ·exact ⟨gG _,by dsimp only;omega,gG _,fun h=>by dsimp only at h;omega,fun h=>by dsimp only at h;omega⟩
  ·subst elo ehi;exact Wk.cq 1
  ·rintro ⟨i,j⟩ ⟨h1,h2,h3,h4,h5⟩
   dsimp only at h1 h2 h3 h4 h5 ⊢
   by_cases hij:i<j
   ·obtain ⟨y,hy⟩ : ∃y,l[((i+j)/2).toNat]? = some y:=⟨_,ZgE (by omega)⟩
    obtain ⟨x,hx⟩ : ∃x,l[((mid:Int)+m-1-(i+j)/2).toNat]? = some x:=⟨_,ZgE (by omega)⟩
    have ky:=BO (key:=key) hy
    have kx:=BO (key:=key) hx
    obtain ⟨c,hc0,hcv⟩:=hg x (fI hx) y (fI hy)
    by_cases hk:key x<key y
    ·have hcn:=hc0.2 hk
     repeat' (first|(refine ZRG ?_;first|(refine kR 11 rfl ?_;first|refine BZ rfl rfl rfl rfl (hcv) (acc:=_) rfl (fun h' hh=>by ((repeat (first|exact .nil|refine .cons ?_ ?_|exact .t _));(first|done|fail))) rfl rfl ?_))|refine Ay ?_|fail)
     all_goals try exact ZE5
     refine ⟨(i,(i+j)/2),⟨h1,by dsimp only;omega,by dsimp only;omega,h4,fun _=>?_⟩,by dsimp only;omega,?_⟩
     ·dsimp only;rw [ky,kx];exact hk
     ·exact Wk.cq 1
    ·have hcn : ¬c<0:=fun h=>hk (hc0.1 h)
     repeat' (first|(refine ZRG ?_;first|(refine kR 11 rfl ?_;first|refine BZ rfl rfl rfl rfl (hcv) (acc:=_) rfl (fun h' hh=>by ((repeat (first|exact .nil|refine .cons ?_ ?_|exact .t _));(first|done|fail))) rfl rfl ?_))|refine Ay ?_|fail)
     all_goals try exact ZE5
     refine ⟨((i+j)/2+1,j),⟨by dsimp only;omega,by dsimp only;omega,h3,fun _=>?_,h5⟩,by dsimp only;omega,?_⟩
     ·dsimp only;rw [jQ,ky,kx];omega
     ·exact Wk.cq 1
   ·obtain rfl:i=j:=by omega
    obtain ⟨st,rfl⟩ : ∃n:Nat,i=n:=⟨i.toNat,by omega⟩
    obtain ⟨en,een⟩ : ∃en:Nat,(mid:Int)+m-st=en:=⟨((mid:Int)+m-st).toNat,by omega⟩
    have q1:a≤st:=by omega
    have q2:st≤m:=by omega
    have q3:m≤en:=by omega
    have q4:en≤b:=by omega
    have q5:st≤mid:=by omega
    obtain ⟨s1,s2,s3,s4,s5⟩:=JV (mid:=mid) q1 q2 q3 q4 hb (by omega) hs1 hs2 (fun g1 g2=>by
     have:=h4 (by omega)
     rwa [show ((st:Int)-1).toNat=st-1 by omega,show ((mid:Int)+m-1-((st:Int)-1)).toNat=en by omega] at this) (fun g1 g2=>by
     have:=h5 (by omega)
     rwa [show ((mid:Int)+m-1-(st:Int)).toNat=en-1 by omega,fW] at this)
    have n1 : ¬(st<m∧m<en)→l=rot l st m en:=fun h=>(MN q2 q3 h).symm
    have n2 : ¬(a<st∧st<mid)→rot l st m en=srt key (rot l st m en) a mid:=fun h=>by
     by_cases e:a=st
     ·subst e;exact (CG (by omega) s2).symm
     ·have e2:st=mid:=by omega
      subst e2;exact (CG q1 s1).symm
    have n3 : ¬(mid<en∧en<b)→srt key (rot l st m en) a mid=srt key l a b:=fun h=>by
     rw [←s5]
     by_cases e:mid=en
     ·subst e;exact (CG (by omega) s4).symm
     ·have e2:en=b:=by omega
      subst e2;exact (CG (by omega) s3).symm
    have v1 : ∀z∈rot l st m en,z∈l:=fun z hz=>PZ hz
    have v2 : ∀z∈srt key (rot l st m en) a mid,z∈l:=fun z hz=>v1 z ((QD (by omega)).1 hz)
    have w1:(rot l st m en).length=l.length:=PY q2 q3 (by omega)
    have w2:(srt key (rot l st m en) a mid).length=l.length:=by rw [DP (by omega) (by omega),w1]
    have cR:st<m∧m<en→_:=fun h=>c9_ f fi cap hup hps l k st m en h.1 h.2 (by omega) hl
    have c2:a<st∧st<mid→_:=fun h=>IH (rot l st m en) a st mid (by omega) h.1 h.2 (by omega) (by omega) (hg.mono v1) s1 s2
    have c3:mid<en∧en<b→_:=fun h=>IH (srt key (rot l st m en) a mid) mid en b (by omega) h.1 h.2 (by omega) (by omega) (hg.mono v2) s3 s4
    rw [s5] at c3
    rw [w1] at c2
    rw [w2] at c3
    clear s1 s2 s3 s4 s5 v1 v2 w1 w2 h4 h5 hs1 hs2 hg
    generalize srt key l a b=L3 at *
    generalize srt key (rot l st m en) a mid=L2 at *
    generalize rot l st m en=L1 at *
    rw [←een] at cR c3
    have t1:(st<m∧m<en)∨(¬(st<m∧m<en)∧l=L1):=(kB _).imp id fun h=>⟨h,n1 h⟩
    have t2:(a<st∧st<mid)∨(¬(a<st∧st<mid)∧L1=L2):=(kB _).imp id fun h=>⟨h,n2 h⟩
    have t3:(mid<en∧en<b)∨(¬(mid<en∧en<b)∧L2=L3):=(kB _).imp id fun h=>⟨h,n3 h⟩
    clear n1 n2 n3
    rcases t1 with g1|⟨g1,rfl⟩<;>rcases t2 with g2|⟨g2,rfl⟩<;>rcases t3 with g3|⟨g3,rfl⟩
    all_goals try (exfalso;omega)
    all_goals
     repeat' (first|refine Ev ?_|fail)
     all_goals first|(exfalso;omega)|(exact Fin.q Tryz.results324 .nil [])
include hup hps in
theorem SS : ∀(N:Nat) (l:List Int) (a m b:Nat),b-a=N→a<m→m<b→b≤l.length→l.length≤1152921504606846976→PL (.fn (.func f) fi cap) key l→BF key (seg l a m)→BF key (seg l m b) →
  Cio Tryz.prog 324 [.sl 0 k l.length,i64 a,i64 m,i64 b,.fn (.func f) fi cap] [.row k 3 1 (l.map tI)] (.tup []) [.row k 3 1 ((srt key l a b).map tI)]:=by
 intro N
 induction N using Nat.strongRecOn with
 | _ N ih =>
  intro l a m b hN h1 h2 h3 h4 h5 h6 h7
  by_cases e1:m=a+1
  ·exact AeB f fi cap key hup k l a m b e1 h2 h3 h4 h5 h7
  ·by_cases e2:b=m+1
   ·exact AeC f fi cap key hup k l a m b (by omega) e2 h3 h4 h5 h6
   ·exact AeD f fi cap key hup hps k l a m b (by omega) (by omega) h3 h4 h5 h6 h7 fun l a' m' b' g0=>ih (b'-a') (by omega) l a' m' b' rfl
end
end
theorem AgM (f:FuncId) (fi cap:List AV) (key:Int→Int) (l:List Int) (k:Nat) (hl:l.length≤1152921504606846976) (hg:PL (.fn (.func f) fi cap) key l)
  (hup:upB (CK 1) (.fn (.func f) fi cap) = .fn (.func f) fi cap) (hps : ∀heap sel,BG heap sel (.fn (.func f) fi cap) (.fn (.func f) fi cap)) :
  Cio Tryz.prog 320 [.sl 0 k l.length,i64 l.length,.fn (.func f) fi cap] [.row k 3 1 (l.map tI)] (.tup []) [.row k 3 1 ((isort key l).map tI)]:=by
 refine ZEN Tryz.func320 Tryz.ntmps320 ?_
 repeat' (first|refine A0 ?_|fail)
 refine AW.loopP (fun (x:Nat × List Int)=>20∣x.1∧x.1≤l.length∧(∀c,20∣c→c<x.1→BF key (seg x.2 c (c+20)))∧SE key l x.2∧x.2.length=l.length) (fun (x:Nat × List Int)=>(pu (pu (pu (pu (pu (pu (fun _=>.any) 0 (.sl 0 k l.length)) 1 (i64 l.length)) 2 (.fn (.func f) fi cap)) 6 (i64 20)) 7 (i64 x.1)) 8 (i64 ((x.1+20:Nat):Int)))) (fun (x:Nat × List Int)=>[.row k 3 1 (x.2.map tI)]) (fun (x:Nat × List Int)=>l.length-x.1) ((0,l)) ?_ ?_ ?_
 ·exact ⟨Nat.dvd_zero _,fO _,fun c _ h=>by dsimp only at h;omega,SE.refl _,rfl⟩
 ·exact Wk.cq 1
 ·rintro ⟨a,M⟩ ⟨h2,h3,h4,h5,h6⟩
  dsimp only at h2 h3 h4 h5 h6 ⊢
  have hgM:=hg.mono fun x hx=>h5.mem.1 hx
  by_cases hb:a+20≤l.length
  ·have c1:=ZO f fi cap key M k a (a+20) (by omega) (by omega) (by omega) hgM hup
   rw [h6] at c1
   repeat' (first|refine Ao ?_|fail)
   all_goals try exact ZE5
   refine ⟨(a+20,srt key M a (a+20)),⟨mU h2 (mN _),hb,LP h2 h4 (by omega),h5.trans (IQ (by omega)),by dsimp only;rw [DP (by omega) (by omega),h6]⟩,by dsimp only;omega,?_⟩
   exact Wk.cq 1
  ·have c1:=ZO f fi cap key M k a l.length (by omega) (by omega) (by omega) hgM hup
   have f1:=LO h2 h4 (by omega) (by omega)
   have f2:=h5.trans (IQ (key:=key) (l:=M) (a:=a) (b:=l.length) (by omega))
   have f3:=DP (key:=key) (l:=M) (a:=a) (b:=l.length) (by omega) (by omega)
   rw [h6] at c1 f1 f3
   clear h4 h5 hgM
   generalize srt key M a l.length=M1 at *
   repeat' (first|refine Ao ?_|fail)
   all_goals try exact ZE5
   refine AW.loopP (fun (y:Nat × List Int)=>0<y.1∧y.1≤2*l.length+20∧(∀c,y.1∣c→BF key (seg y.2 c (c+y.1)))∧SE key l y.2∧y.2.length=l.length) (fun (y:Nat × List Int)=>(pu (pu (pu (pu (fun _=>.any) 0 (.sl 0 k l.length)) 1 (i64 l.length)) 2 (.fn (.func f) fi cap)) 6 (i64 y.1))) (fun (y:Nat × List Int)=>[.row k 3 1 (y.2.map tI)]) (fun (y:Nat × List Int)=>l.length+1-y.1) ((20,M1)) ?_ ?_ ?_
   ·exact ⟨by dsimp only;omega,by dsimp only;omega,f1,f2,f3⟩
   ·exact Wk.cq 1
   ·rintro ⟨d,M2⟩ ⟨g1,g2,g3,g4,g5⟩
    dsimp only at g1 g2 g3 g4 g5 ⊢
    by_cases hd:d<l.length
    ·repeat' (first|refine A0 ?_|fail)
     all_goals try exact ZE5
     refine AW.loopP (fun (z:Nat × Nat × List Int)=>2*d∣z.1∧z.1≤l.length∧z.2.1=z.1+2*d∧(∀c,2*d∣c→c<z.1→BF key (seg z.2.2 c (c+2*d)))∧(∀c,d∣c→z.1≤c→BF key (seg z.2.2 c (c+d)))∧SE key l z.2.2∧z.2.2.length=l.length) (fun (z:Nat × Nat × List Int)=>(pu (pu (pu (pu (pu (pu (fun _=>.any) 0 (.sl 0 k l.length)) 1 (i64 l.length)) 2 (.fn (.func f) fi cap)) 6 (i64 d)) 7 (i64 z.1)) 8 (i64 z.2.1))) (fun (z:Nat × Nat × List Int)=>[.row k 3 1 (z.2.2.map tI)]) (fun (z:Nat × Nat × List Int)=>l.length-z.1) ((0,2*d,M2)) ?_ ?_ ?_
     ·exact ⟨Nat.dvd_zero _,fO _,by dsimp only;omega,fun c _ h=>by dsimp only at h;omega,fun c hc _=>g3 c hc,g4,g5⟩
     ·exact Wk.cq 1
     ·rintro ⟨a,b,M3⟩ ⟨k1,k2,k3,k4,k5,k6,k7⟩
      dsimp only at k1 k2 k3 k4 k5 k6 k7 ⊢
      have hgM:=hg.mono fun x hx=>k6.mem.1 hx
      have kd:d∣a:=Nat.dvd_trans (Nat.dvd_mul_left _ _) k1
      have kd2:d∣a+d:=mU kd (mN _)
      have t1:=k5 a kd (fN _)
      have t2:=k5 (a+d) kd2 (by omega)
      by_cases hb:b≤l.length
      ·have cM:=SS f fi cap key hup hps k _ M3 a (a+d) b rfl (by omega) (by omega) (by omega) (by omega) hgM t1 (by rwa [show a+d+d=b by omega] at t2)
       rw [k7] at cM
       have u1 : ∀c,2*d∣c→c<b→BF key (seg (srt key M3 a b) c (c+2*d)):=by have:=LP k1 k4 (by omega);rwa [←k3] at this
       have u2:=QO (b:=b) k5 (by omega) (by omega)
       have u3:=k6.trans (IQ (key:=key) (l:=M3) (a:=a) (b:=b) (by omega))
       have u4:=DP (key:=key) (l:=M3) (a:=a) (b:=b) (by omega) (by omega)
       rw [k7] at u4
       generalize srt key M3 a b=M4 at *
       repeat' (first|refine Ck ?_|fail)
       all_goals try exact ZE5
       refine ⟨(b,b+2*d,M4),⟨by dsimp only;rw [k3];exact mU k1 (mN _),hb,rfl,u1,u2,u3,u4⟩,by dsimp only;omega,?_⟩
       exact Wk.cq 1
      ·by_cases hm:a+d<l.length
       ·have cM:=SS f fi cap key hup hps k _ M3 a (a+d) l.length rfl (by omega) (by omega) (by omega) (by omega) hgM t1 (by rwa [MR (c:=l.length) (by omega) (by omega)] at t2)
        rw [k7] at cM
        have u1 : ∀c,2*d∣c→BF key (seg (srt key M3 a l.length) c (c+2*d)):=by have:=LO k1 k4 (by omega) (by omega);rwa [k7] at this
        have u3:=k6.trans (IQ (key:=key) (l:=M3) (a:=a) (b:=l.length) (by omega))
        have u4:=DP (key:=key) (l:=M3) (a:=a) (b:=l.length) (by omega) (by omega)
        rw [k7] at u4
        rw [lJ] at u1
        generalize srt key M3 a l.length=M4 at *
        repeat' (first|refine Ck ?_|fail)
        all_goals try exact ZE5
        refine ⟨(d*2,M4),⟨by dsimp only;omega,by dsimp only;omega,u1,u3,u4⟩,by dsimp only;omega,?_⟩
        exact Wk.cq 1
       ·have u1 : ∀c,2*d∣c→BF key (seg M3 c (c+2*d)):=YO k1 k4 k5 (by omega)
        rw [lJ] at u1
        repeat' (first|refine A0 ?_|fail)
        all_goals try exact ZE5
        refine ⟨(d*2,M3),⟨by dsimp only;omega,by dsimp only;omega,u1,k6,k7⟩,by dsimp only;omega,?_⟩
        exact Wk.cq 1
    ·rw [m2_ g3 g4 (by omega)]
     repeat' (first|refine A0 ?_|fail)
     all_goals exact Ah Tryz.results320
theorem XR (f:FuncId) (fi cap:List AV) (key:Int→Int) (l:List Int) (k:Nat) (hl:l.length≤1152921504606846976) (hg:PL (.fn (.func f) fi cap) key l)
  (hup:upB (CK 1) (.fn (.func f) fi cap) = .fn (.func f) fi cap) (hps : ∀heap sel,BG heap sel (.fn (.func f) fi cap) (.fn (.func f) fi cap)) :
  Cio Tryz.prog 314 [.sl 0 k l.length,.fn (.func f) fi cap] [.row k 3 1 (l.map tI)] (.tup []) [.row k 3 1 ((isort key l).map tI)]:=by
 have hlt:(l.map tI).length=l.length:=fH _
 have c1:=AgM f fi cap key l k hl hg hup hps
 refine ZEN Tryz.func314 Tryz.ntmps314 ?_
 repeat' (first|refine Ew ?_|fail)
 all_goals (exact Fin.q Tryz.results314 .nil [])
end
section
attribute [local simp] DL CM
theorem p_ {l:List AH} {t:Int} (hl:okW l):okW (cutW l t):=by
 refine ⟨by rw [CM];exact hl.1,fun x hx=>?_⟩
 unfold cutW at hx
 split at hx
 ·rcases iN hx with h|rfl
  ·exact hl.2 x h
  ·exact fO _
 ·exact hl.2 x hx
def k8:List BD:=[⟨2,8,0⟩]
def v0:List AH:=[w0,w0,w0]
def v1:List AH:=[w0,w0,⟨true,1,4,k8⟩]
def v2:List AH:=[⟨true,2,5,k8⟩,w0,⟨true,1,4,k8⟩]
def v3:List AH:=[⟨true,2,5,k8⟩,w0,w0]
end
end Go.Proofs.YtccefppppedgkaaGreat
